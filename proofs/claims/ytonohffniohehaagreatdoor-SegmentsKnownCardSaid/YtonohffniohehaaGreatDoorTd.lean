/-
  Segments: what the tables say; the units of a segment.
  Segments: the units of a segment, by the program and by the reference; the law SegmentsUnits.
  Segments: the chapter's examples, run by the kernel.
  Segments: the reference's units; the law SegmentsUnits.
  Segments: patterns out of segments, by the program and by the reference.
  Segments: the program's Pattern and the reference's.
  Segments: the reference's Pattern.
  Segments: the units of all lines in order, and how they grow together.
  Segments: the reference walks along all lines.
  Segments: the program's segments are those of the walk.
  Segments: the names of units; which patterns are valid.
  Segments: the two checks of a pattern.
  Segments: what the segments of a pattern are made of.
  Segments: the law SegmentsPattern.
  Segments: the law SegmentsOf.
  Segments: the law SegmentsTurned.
  Segments: the law SegmentsErrors.
  Words: a text is cut at its spaces, and put together j5o.
  Segments: texts of lines and of segments.
  Segments: texts of segments; the law SegmentsText.
  Segments: Parse; the law SegmentsText.
  Segments: the law SegmentsText.
  Segments: the law SegmentsKnown: at the derived values the other laws answer.
-/
import Derived.Test.YtonohffniohehaaGreatDoorTc
set_option linter.unusedSimpArgs false
set_option linter.unusedVariables false
set_option linter.unusedSectionVars false
set_option linter.unnecessarySimpa false
namespace Go.Vm
namespace X
open W Go.Proofs.Un
theorem kgk {α:Type} {r:α→α→Bool} (tr:∀x y z,r x y=true→r y z=true→r x z=true):∀ {l:List α},adj r l=true→l.Pairwise fun x y=>r x y=true
 | [],_=>List.Pairwise.nil
 | x::l,h=>by
   simp only[adj,Bool.and_eq_true] at h
   have ih:=kgk tr h.2
   refine List.pairwise_cons.2 ⟨fun y hy=>?_,ih⟩
   cases l with
   | nil=>cases hy
   | cons z l=>
     rcases List.mem_cons.1 hy with e | hy
     ·rw[e];exact h.1
     ·exact tr _ _ _ h.1 ((List.pairwise_cons.1 ih).1 y hy)
theorem j7c {x y:UnT}:kr5 x y=true↔x.1<y.1∨x.1=y.1∧x.2<y.2:=by
 simp[kr5]
def Nx (x y:LiT):Prop:=x.2.1.1<y.2.1.1∨x.2.1.1=y.2.1.1∧(x.2.1.2<y.2.1.2∨x.2.1.2=y.2.1.2∧x.2.2.2≤y.2.2.1)
theorem ka0 {x y:LiT}:nxt x y=true↔Nx x y:=by
 simp[nxt,Nx]
structure LiOK (w h:Nat) (x:LiT):Prop where
 k1:1≤x.2.1.1
 k4:x.2.1.1≤4
 c0: -(w:Int)≤x.2.1.2
 c1:x.2.1.2≤(w:Int)+h
 f0:0≤x.2.2.1
 ft:x.2.2.1<x.2.2.2
 t1:x.2.2.2≤2* ((w:Int)+h)
 u0:0≤x.1.1
 u1:x.1.1<4* (w:Int)*h
 e0:0≤x.1.2
 e2:x.1.2≤2
section
variable {w h:Nat} {T:List LiT}
theorem Tab.li (t:Tab w h T) {x:LiT} (hx:x∈T):LiOK w h x:=by
 have:=List.all_eq_true.1 t.ok x hx
 simp only[ksg,Bool.and_eq_true,decide_eq_true_eq] at this
 obtain⟨⟨⟨⟨⟨⟨⟨⟨⟨⟨a1,a2⟩,a3⟩,a4⟩,a5⟩,a6⟩,a7⟩,a8⟩,a9⟩,a10⟩,a11⟩:=this
 exact⟨a1,a2,a3,a4,a5,a6,a7,a8,a9,a10,a11⟩
theorem Tab.asc (t:Tab w h T):(T.map (·.1)).Pairwise fun x y=>x.1<y.1∨x.1=y.1∧x.2<y.2:=
 (kgk (fun x y z h1 h2=>by rw[j7c] at *;omega) t.up).imp fun h=>j7c.1 h
theorem Tab.ndU (t:Tab w h T):(T.map (·.1)).Nodup:=t.asc.imp fun {a b} h e=>by subst e;omega
theorem jqv {α:Type} {l:List α} (h:l.Nodup) {i j:Nat} (hi:i<l.length) (hj:j<l.length) (e:l[i]=l[j]):i=j:=by
 rcases Nat.lt_trichotomy i j with g | g | g
 ·exact absurd e (List.pairwise_iff_getElem.1 h i j hi hj g)
 ·exact g
 ·exact absurd e.symm (List.pairwise_iff_getElem.1 h j i hj hi g)
theorem Tab.unitInj (t:Tab w h T) {x y:LiT} (hx:x∈T) (hy:y∈T) (e:x.1=y.1):x=y:=by
 obtain⟨i,hi,rfl⟩:=List.getElem_of_mem hx
 obtain⟨j,hj,rfl⟩:=List.getElem_of_mem hy
 have h1:(T.map (·.1))[i]'(by simpa using hi)=(T.map (·.1))[j]'(by simpa using hj):=by simpa using e
 have:=jqv t.ndU _ _ h1
 subst this
 rfl
theorem kfw {α:Type} {r:α→α→Bool}:∀ {l:List α},pwB r l=true→l.Pairwise fun x y=>r x y=true
 | [],_=>List.Pairwise.nil
 | x::l,h=>by
   simp only[pwB,Bool.and_eq_true] at h
   exact List.pairwise_cons.2 ⟨fun y hy=>List.all_eq_true.1 h.1 y hy,kfw h.2⟩
theorem Tab.key (t:Tab w h T):KeyD T:=(kfw t.kd).imp fun {x y} h ⟨h1,h2⟩=>by
 simp[ksi,h1,h2] at h
theorem Tab.len (t:Tab w h T) (hw:w≤6) (hh:h≤6):T.length≤1000:=by
 have hn:=t.ndU
 have:(T.map (·.1)).length≤1000:=by
  have hsub:∀u∈T.map (·.1),u∈((List.range 144).flatMap fun(i:Nat)=>(List.range 3).map fun(e:Nat)=>(((i:Nat):Int),((e:Nat):Int))):=by
   intro u hu
   obtain⟨x,hx,rfl⟩:=List.mem_map.1 hu
   have:=t.li hx
   have h1:=this.u0;have h2:=this.u1;have h3:=this.e0;have h4:=this.e2
   have h5:4* (w:Int)*h≤4*6*6:=by
    have:w*h≤6*6:=Nat.mul_le_mul hw hh
    have e:(4* (w:Int)*h)=4* ((w*h:Nat):Int):=by rw[Int.natCast_mul,Int.mul_assoc]
    omega
   refine List.mem_flatMap.2 ⟨x.1.1.toNat,List.mem_range.2 (by omega),List.mem_map.2 ⟨x.1.2.toNat,List.mem_range.2 (by omega),?_⟩⟩
   exact Prod.ext (by simp only;omega) (by simp only;omega)
  have:=hn.length_le_of_subset hsub
  exact Nat.le_trans this (by decide +kernel)
 simpa using this
theorem j1p (t:Tab w h T) (hw:1≤w∧w≤6) (hh:1≤h∧h≤6):jde fuel ((w:Int),(h:Int))=some (j4t T):=by
 have hlen:=t.len hw.2 hh.2
 apply Ret.eq
 unfold jde
 rw[t.us,Option.bind_some]
 refine ja7 (fun s:Int×List (((Int×Int)×Int)×((Int×Int)×Int))=>∃i:Nat,s.1=(i:Int)∧i≤T.length∧s.2=j4t (T.take i)) (fun s=>T.length-s.1.toNat) ?_ fuel _ ⟨0,rfl,Nat.zero_le _,rfl⟩ (by simp only[fuel];omega)
 rintro ⟨s1,s2⟩ rec ⟨i,h1,h2,h3⟩ hrec
 simp only at h1 h3 ⊢
 subst h1
 subst h3
 refine jaf (fun hlt=>?_) fun hge=>?_
 ·rw[List.length_map] at hlt
  have hi:i<T.length:=by omega
  have hx:(T.map (·.1)).getD ((i:Int).toNat) (0,0)=T[i].1:=by
   rw[Int.toNat_natCast,List.getD_eq_getElem?_getD,List.getElem?_map,List.getElem?_eq_getElem hi];rfl
  rw[hx]
  have hl:=List.all_eq_true.1 t.lie _ (List.getElem_mem hi)
  unfold khx at hl
  refine jac (jeg (by omega) (by rw[List.length_map];exact hlt)) ?_
  split at hl
  rotate_left
  ·cases hl
  rename_i r hr
  rw[hr,Option.bind_some]
  simp only[Bool.and_eq_true,decide_eq_true_eq] at hl
  obtain⟨⟨⟨l1,l2⟩,l3⟩,l4⟩:=hl
  refine jac (jan (by omega) (by omega)) (hrec _ ⟨i+1,by simp,hi,?_⟩ (by simp only;omega))
  rw[l1,l2,l3,l4,jkx T i hi,j6l]
  ·unfold j4t
   rw[List.map_append]
   rfl
  ·intro a ha
   obtain⟨y,hy,rfl⟩:=List.mem_map.1 ha
   cases hq:KT.eqb ((T[i].2.1.1,T[i].2.1.2),T[i].2.2.1) (y.2.1,y.2.2.1) with
   | false=>rfl
   | true=>
     have e:=(kby _ _).1 hq
     simp only[Prod.mk.injEq] at e
     obtain⟨j,hj,hjy⟩:=List.mem_take_iff_getElem.1 hy
     have hkd:=List.pairwise_iff_getElem.1 t.key j i (by omega) hi (by omega)
     rw[hjy] at hkd
     exact absurd (And.intro e.1.symm e.2.symm) hkd
 ·have hi:i=T.length:=by rw[List.length_map] at hge;omega
  subst hi
  rw[List.take_length]
  exact jas rfl
end
end X
end Go.Vm
namespace Go.Vm
namespace X
open W
def TB (T:List LiT):Prop:=∀x∈T,0≤x.2.2.1∧x.2.2.1<x.2.2.2∧x.2.2.2≤24
theorem Tab.tb {w h:Nat} {T:List LiT} (t:Tab w h T) (hw:w≤6) (hh:h≤6):TB T:=fun x hx=>by
 have:=t.li hx
 exact⟨this.f0,this.ft,by have:=this.t1;omega⟩
def wk (T:List LiT) (l:Int×Int) (tq:Int):Nat→Int→Option (List UnT)
 | 0,_=>none
 | n+1,p=>if p=tq then some [] else match lkT T l p with
   | none=>none
   | some x=>if tq<x.2.2.2 then none else(wk T l tq n x.2.2.2).map (x.1::·)
def mm (p:Int):Nat:=if 0≤p∧p≤24 then(24-p).toNat+1 else 26
theorem kj5 {T:List LiT} (hT:TB T) {l:Int×Int} {tq:Int}:∀(n m:Nat) (p:Int),mm p≤n→mm p≤m→wk T l tq n p=wk T l tq m p
 | 0,_,p,h,_=>by unfold mm at h;split at h<;>omega
 | n+1,0,p,_,h=>by unfold mm at h;split at h<;>omega
 | n+1,m+1,p,hn,hm=>by
   simp only[wk]
   split
   ·rfl
   ·cases hl:lkT T l p with
    | none=>rfl
    | some x=>
      obtain⟨h1,h2,h3⟩:=jff hl
      obtain⟨b1,b2,b3⟩:=hT x h1
      have e:mm x.2.2.2+1≤mm p:=by
       unfold mm
       rw[if_pos (by omega),if_pos (by omega)]
       omega
      simp only
      rw[kj5 hT n m x.2.2.2 (by omega) (by omega)]
def wkS (T:List LiT) (l:Int×Int) (tq p:Int):Option (List UnT):=wk T l tq (mm p) p
theorem jt7 {T:List LiT} (hT:TB T) (l:Int×Int) (tq p:Int):wkS T l tq p=if p=tq then some [] else match lkT T l p with
  | none=>none
  | some x=>if tq<x.2.2.2 then none else(wkS T l tq x.2.2.2).map (x.1::·):=by
 unfold wkS
 cases hm:mm p with
 | zero=>unfold mm at hm;split at hm<;>omega
 | succ n=>
   simp only[wk]
   split
   ·rfl
   ·cases hl:lkT T l p with
    | none=>rfl
    | some x=>
      obtain⟨h1,h2,h3⟩:=jff hl
      obtain⟨b1,b2,b3⟩:=hT x h1
      have e:mm x.2.2.2+1≤mm p:=by
       unfold mm
       rw[if_pos (by omega),if_pos (by omega)]
       omega
      simp only
      rw[kj5 hT n (mm x.2.2.2) x.2.2.2 (by omega) (Nat.le_refl _)]
abbrev SgT:=Int×((Int×Int)×(Int×Int))
structure OrdP (x:SgT):Prop where
 k1:1≤x.1
 k3:x.1≤3
 l1:1≤x.2.1.1
 l4:x.2.1.1≤4
 c0: -4096≤x.2.1.2
 c1:x.2.1.2≤4096
 ft:x.2.2.1<x.2.2.2
open Classical in
noncomputable def jca (T:List LiT) (x:SgT):List UnT×Int:=if OrdP x then(match wkS T x.2.1 x.2.2.2 x.2.2.1 with
 | none=>([],7)
 | some u=>(u,0)) else([],1)
theorem jw3 (l:Int×Int):jc5 fuel l=some 0∧(1≤l.1∧l.1≤4∧ -4096≤l.2∧l.2≤4096)∨jc5 fuel l=some 1∧¬(1≤l.1∧l.1≤4∧ -4096≤l.2∧l.2≤4096):=by
 unfold jc5
 by_cases h1:l.1<1
 ·simp only[h1,decide_true,cond_true];exact .inr ⟨trivial,by omega⟩
 by_cases h2:4<l.1
 ·simp only[h1,h2,decide_true,decide_false,cond_true,cond_false];exact .inr ⟨trivial,by omega⟩
 by_cases h3:l.2 < -4096
 ·simp only[h1,h2,h3,decide_true,decide_false,cond_true,cond_false];exact .inr ⟨trivial,by omega⟩
 by_cases h4:4096<l.2
 ·simp only[h1,h2,h3,h4,decide_true,decide_false,cond_true,cond_false];exact .inr ⟨trivial,by omega⟩
 simp only[h1,h2,h3,h4,decide_false,cond_false]
 exact .inl ⟨trivial,by omega⟩
theorem ju5 (x:SgT):∃b,jbg fuel x=some b∧(b=true↔OrdP x):=by
 unfold jbg
 by_cases h1:1≤x.1
 rotate_left
 ·simp only[h1,decide_false,cond_false];exact⟨_,rfl,by simp;intro h;exact h1 h.k1⟩
 by_cases h2:x.1≤3
 rotate_left
 ·simp only[h1,h2,decide_true,decide_false,cond_true,cond_false];exact⟨_,rfl,by simp;intro h;exact h2 h.k3⟩
 simp only[h1,h2,decide_true,cond_true]
 rcases jw3 (x.2.1.1,x.2.1.2) with⟨e,g⟩ | ⟨e,g⟩
 ·rw[e,Option.bind_some]
  simp only[decide_true,cond_true]
  simp only at g
  exact⟨_,rfl,by simp only[decide_eq_true_eq];exact⟨fun h=>⟨h1,h2,g.1,g.2.1,g.2.2.1,g.2.2.2,h⟩,fun h=>h.ft⟩⟩
 ·rw[e,Option.bind_some]
  simp only[show((1:Int)=0)=False by simp,decide_false,cond_false]
  exact⟨_,rfl,by simp;intro h;exact g ⟨h.l1,h.l4,h.c0,h.c1⟩⟩
section
variable {w h:Nat} {T:List LiT}
theorem jeb (hw:1≤w∧w≤6) (hh:1≤h∧h≤6):jao fuel ((w:Int),(h:Int))=some 0:=by
 unfold jao
 have h5:w*h≤6*6:=Nat.mul_le_mul hw.2 hh.2
 have e:((w:Int)*h)=((w*h:Nat):Int):=by rw[Int.natCast_mul]
 have n1:¬((w:Int)<1):=by omega
 have n2:¬((h:Int)<1):=by omega
 have n3:¬((256:Int)<w):=by omega
 have n4:¬((256:Int)<h):=by omega
 have n5:¬((256:Int)< (w:Int)*h):=by omega
 simp only[n1,n2,n3,n4,decide_false,cond_false]
 rw[jan (by omega) (by omega)]
 simp only[chk,cond_true,n5,decide_false,cond_false]
theorem kgp (hT:TB T) {l:Int×Int} {tq:Int} {β:Type} (bad:β) (done:List UnT→β) (K:List UnT→Option β) (hK:∀L,L.length≤24→K L=some (done L))
  {step:((List UnT×Int)→Option β)→(List UnT×Int)→Option β}
  (hs:∀rec s,step rec s=bif(decide (s.2≠tq)) then(bif(!(jd6 KT VT ((l.1,l.2),s.2) (j4t T)).isSome) then(some bad) else(bif(decide (tq< ((jd6 KT VT ((l.1,l.2),s.2) (j4t T)).getD ((0,0),0)).2)) then(some bad) else(chk (jeo (s.1.length+1)) (rec ((s.1++[(((jd6 KT VT ((l.1,l.2),s.2) (j4t T)).getD ((0,0),0)).1.1,((jd6 KT VT ((l.1,l.2),s.2) (j4t T)).getD ((0,0),0)).1.2)]),((jd6 KT VT ((l.1,l.2),s.2) (j4t T)).getD ((0,0),0)).2))))) else K s.1) (p:Int):
  jbl step fuel ([],p)=some (match wkS T l tq p with
   | none=>bad
   | some u=>done u):=by
 refine(jk3 (fun s:List UnT×Int=>(s.1=[]∨(0≤s.2∧s.2≤24∧s.1.length≤s.2.toNat))) (fun s=>mm s.2) (fun s=>some (match wkS T l tq s.2 with
  | none=>bad
  | some u=>done (s.1++u))) ?_ fuel ([],p) (.inl rfl) (by unfold mm;simp only[fuel];split<;>omega)).trans (by simp)
 rintro ⟨A,p⟩ rec hI hrec
 simp only at hI
 rw[hs,jt7 hT]
 simp only
 by_cases hp:p=tq
 ·simp only[hp,ne_eq,not_true_eq_false,decide_false,cond_false,if_true]
  rw[List.append_nil]
  exact hK A (by rcases hI with e | ⟨_,_,_⟩<;>(try subst e)<;>(try simp)<;>omega)
 ·simp only[hp,ne_eq,not_false_eq_true,decide_true,cond_true,if_false]
  rw[show(l.1,l.2)=l from rfl,jvh]
  cases hl:lkT T l p with
  | none=>rfl
  | some x=>
    obtain⟨h1,h2,h3⟩:=jff hl
    obtain⟨b1,b2,b3⟩:=hT x h1
    simp only[Option.map_some,Option.isSome_some,Bool.not_true,cond_false,Option.getD_some]
    by_cases hq:tq<x.2.2.2
    ·simp only[hq,decide_true,cond_true,if_true]
    ·simp only[hq,decide_false,cond_false,if_false]
     have hA:A.length≤p.toNat:=by rcases hI with e | ⟨_,_,e⟩<;>(try subst e)<;>(try simp)<;>omega
     rw[jg9 (by omega)]
     simp only[chk,cond_true]
     rw[hrec (A++[x.1],x.2.2.2) (.inr ⟨by simp only;omega,by simp only;omega,by simp only[List.length_append,List.length_singleton];omega⟩) (by
      unfold mm
      simp only
      rw[if_pos (by omega),if_pos (by omega)]
      omega)]
     simp only
     cases wkS T l tq x.2.2.2 with
     | none=>rfl
     | some u=>simp
theorem j0r (t:Tab w h T) (hw:1≤w∧w≤6) (hh:1≤h∧h≤6) (x:SgT):ja9 fuel (((w:Int),(h:Int)),x)=some (jca T x):=by
 unfold ja9
 simp only
 rw[jeb hw hh,Option.bind_some]
 simp only[ne_eq,not_true_eq_false,decide_false,cond_false]
 rw[j1p t hw hh,Option.bind_some]
 obtain⟨b,e,hb⟩:=ju5 x
 rw[show(x.1,((x.2.1.1,x.2.1.2),(x.2.2.1,x.2.2.2)))=x from rfl,e,Option.bind_some]
 unfold jca
 cases b with
 | false=>
   rw[if_neg fun h=>by have:=hb.2 h;cases this]
   rfl
 | true=>
   rw[if_pos (hb.1 rfl)]
   simp only[Bool.not_true,cond_false]
   refine(kgp (t.tb hw.2 hh.2) (l:=x.2.1) (tq:=x.2.2.2) (([]:List UnT),(7:Int)) (fun L=>(L,0)) (fun L=>(chk (bnb 0 ((L.length:Nat):Int) L.length&&decide (((L.length:Nat):Int)≤((L.length:Nat):Int))&&decide (((L.length:Nat):Int)≤((L.length:Nat):Int))) (chk ((Nat.beq 0 0)&&(jl0 (some L.length) (L.take L.length).length)) (some ((L.take L.length),(0:Int)))))) (fun L hL=>?_) (fun rec s=>rfl) x.2.2.1).trans ?_
   ·have e1:bnb 0 ((L.length:Nat):Int) L.length=true:=jje.2 ⟨by omega,by omega,by omega⟩
    simp only[e1,Int.le_refl,decide_true,Bool.and_self,chk,cond_true,List.take_length,jl0]
    simp
   ·first | done | (cases wkS T x.2.1 x.2.2.2 x.2.2.1<;>rfl)
end
end X
end Go.Vm
namespace Go.Vm
namespace X
open W
theorem j4y:jbh fuel ()=some true:=by kernel_rfl
end X
end Go.Vm
namespace Go.Vm
namespace X
open W
theorem j1k (l:Int×Int):ja4 fuel l=some 1∧(1≤l.1∧l.1≤4∧ -4096≤l.2∧l.2≤4096)∨ja4 fuel l=some 0∧¬(1≤l.1∧l.1≤4∧ -4096≤l.2∧l.2≤4096):=by
 by_cases h1:1≤l.1
 rotate_left
 ·exact .inr ⟨by unfold ja4;simp only[h1,decide_false,cond_false],by omega⟩
 by_cases h2:l.1≤4
 rotate_left
 ·exact .inr ⟨by unfold ja4;simp only[h1,h2,decide_true,decide_false,cond_true,cond_false],by omega⟩
 by_cases h3: -4096≤l.2
 rotate_left
 ·exact .inr ⟨by unfold ja4;simp only[h1,h2,h3,decide_true,decide_false,cond_true,cond_false],by omega⟩
 by_cases h4:l.2≤4096
 rotate_left
 ·exact .inr ⟨by unfold ja4;simp only[h1,h2,h3,h4,decide_true,decide_false,cond_true,cond_false],by omega⟩
 exact .inl ⟨by unfold ja4;simp only[h1,h2,h3,h4,decide_true,cond_true],by omega⟩
section
variable {w h:Nat} {T:List LiT}
theorem juu (t:Tab w h T) (hw:1≤w∧w≤6) (hh:1≤h∧h≤6) (x:SgT):jg5 fuel (((w:Int),(h:Int)),x)=some (jca T x):=by
 unfold jg5 jca
 simp only
 by_cases h1:x.1<1
 ·simp only[h1,decide_true,cond_true]
  rw[if_neg fun h=>by have:=h.k1;omega]
 by_cases h2:3<x.1
 ·simp only[h1,h2,decide_true,decide_false,cond_true,cond_false]
  rw[if_neg fun h=>by have:=h.k3;omega]
 simp only[h1,h2,decide_false,cond_false]
 rcases j1k (x.2.1.1,x.2.1.2) with⟨e,g⟩ | ⟨e,g⟩
 rotate_left
 ·rw[e,Option.bind_some]
  simp only[decide_true,cond_true]
  rw[if_neg fun h=>g ⟨h.l1,h.l4,h.c0,h.c1⟩]
 rw[e,Option.bind_some]
 simp only at g
 simp only[show((1:Int)=0)=False by simp,decide_false,cond_false]
 by_cases h3:x.2.2.2≤x.2.2.1
 ·simp only[h3,decide_true,cond_true]
  rw[if_neg fun h=>by have:=h.ft;omega]
 simp only[h3,decide_false,cond_false]
 rw[if_pos ⟨by omega,by omega,g.1,g.2.1,g.2.2.1,g.2.2.2,by omega⟩]
 rw[t.all,Option.bind_some]
 have hT:=t.tb hw.2 hh.2
 have hlen:=t.len hw.2 hh.2
 refine(jk3 (fun s:List UnT×Int=>(s.1=[]∧s.2≤x.2.2.2∨(0≤s.2∧s.2≤24∧s.1.length≤s.2.toNat))) (fun s=>mm s.2) (fun s=>some (match (if s.2≤x.2.2.2 then wkS T x.2.1 x.2.2.2 s.2 else none) with
  | none=>(([]:List UnT),(7:Int))
  | some u=>(s.1++u,0))) ?_ fuel ([],x.2.2.1) (.inl ⟨rfl,by simp only;omega⟩) (by unfold mm;simp only[fuel];split<;>omega)).trans (by simp only[show x.2.2.1≤x.2.2.2 by omega,if_true,List.nil_append]<;>cases wkS T x.2.1 x.2.2.2 x.2.2.1<;>rfl)
 rintro ⟨A,p⟩ rec hI hrec
 simp only at hI ⊢
 by_cases hp:p<x.2.2.2
 ·simp only[hp,decide_true,cond_true,show p≤x.2.2.2 by omega,if_true]
  rw[koz (by omega),jt7 hT,Option.bind_some,if_neg (show ¬p=x.2.2.2 by omega)]
  rw[show(x.2.1.1,x.2.1.2)=x.2.1 from rfl]
  cases hl:lkT T x.2.1 p with
  | none=>rfl
  | some y=>
    obtain⟨g1,g2,g3⟩:=jff hl
    obtain⟨b1,b2,b3⟩:=hT y g1
    simp only[show((1:Int)=0)=False by simp,decide_false,cond_false]
    have hA:A.length≤p.toNat:=by rcases hI with⟨e,_⟩ | ⟨_,_,e⟩<;>(try subst e)<;>(try simp)<;>omega
    rw[jg9 (by omega)]
    simp only[chk,cond_true]
    rw[hrec (A++[y.1],y.2.2.2) (.inr ⟨by simp only;omega,by simp only;omega,by simp only[List.length_append,List.length_singleton];omega⟩) (by
     unfold mm
     simp only
     rw[if_pos (by omega),if_pos (by omega)]
     omega)]
    simp only
    by_cases hq:x.2.2.2<y.2.2.2
    ·rw[if_neg (by omega),if_pos hq]
    ·rw[if_pos (by omega),if_neg hq]
     cases wkS T x.2.1 x.2.2.2 y.2.2.2 with
     | none=>rfl
     | some u=>simp
 ·simp only[hp,decide_false,cond_false]
  by_cases he:p=x.2.2.2
  ·subst he
   simp only[ne_eq,not_true_eq_false,decide_false,cond_false,Int.le_refl,if_true]
   rw[jt7 hT,if_pos rfl]
   simp
  ·simp only[he,ne_eq,not_false_eq_true,decide_true,cond_true,show ¬p≤x.2.2.2 by omega,if_false]
theorem kfo {T:List LiT} (hT:TB T) {l:Int×Int} {tq:Int} (h24:24<tq):∀(n:Nat) (p:Int),p<tq→wk T l tq n p=none
 | 0,_,_=>rfl
 | n+1,p,hp=>by
   simp only[wk]
   rw[if_neg (by omega)]
   cases hl:lkT T l p with
   | none=>rfl
   | some x=>
     obtain⟨h1,h2,h3⟩:=jff hl
     obtain⟨b1,b2,b3⟩:=hT x h1
     simp only
     rw[kfo hT h24 n x.2.2.2 (by omega)]
     split<;>rfl
theorem j9l {x:SgT} {T:List LiT} (h:(jca T x).2≠0):(jca T x).1=[]:=by
 unfold jca at h ⊢
 by_cases ho:OrdP x
 ·rw[if_pos ho] at h ⊢
  cases hu:wkS T x.2.1 x.2.2.2 x.2.2.1 with
  | none=>rfl
  | some u=>rw[hu] at h;exact absurd rfl h
 ·rw[if_neg ho]
theorem j9g {T:List LiT} (hT:TB T) {l:Int×Int} {tq:Int}:∀(n:Nat) (p:Int) (u:List UnT),wk T l tq n p=some u→u=[]∨(0≤p∧p<24∧u.length≤(24-p).toNat)
 | 0,_,_,h=>by cases h
 | n+1,p,u,h=>by
   simp only[wk] at h
   split at h
   ·cases h;exact .inl rfl
   ·cases hl:lkT T l p with
    | none=>rw[hl] at h;cases h
    | some x=>
      obtain⟨h1,h2,h3⟩:=jff hl
      obtain⟨b1,b2,b3⟩:=hT x h1
      rw[hl] at h
      simp only at h
      split at h
      ·cases h
      ·obtain⟨v,hv,rfl⟩:=Option.map_eq_some_iff.1 h
       right
       rcases j9g hT n _ v hv with rfl | ⟨g1,g2,g3⟩
       ·simp only[List.length_cons,List.length_nil];omega
       ·simp only[List.length_cons];omega
theorem jyi {T:List LiT} (hT:TB T) (x:SgT):(jca T x).1.length≤24:=by
 unfold jca
 by_cases ho:OrdP x
 ·rw[if_pos ho]
  cases hu:wkS T x.2.1 x.2.2.2 x.2.2.1 with
  | none=>simp
  | some u=>
    rcases j9g hT _ _ _ hu with rfl | ⟨g1,g2,g3⟩
    ·simp
    ·simp only;omega
 ·rw[if_neg ho];simp
theorem j9m (hT:TB T) {x:SgT} (hx:64<x.2.2.2∨x.2.2.1 < -64):(jca T x).2≠0:=by
 unfold jca
 split
 ·rename_i ho
  have:wkS T x.2.1 x.2.2.2 x.2.2.1=none:=by
   rcases hx with hx | hx
   ·exact kfo hT (by omega) _ _ ho.ft
   ·rw[jt7 hT,if_neg (by have:=ho.ft;omega)]
    cases hl:lkT T x.2.1 x.2.2.1 with
    | none=>rfl
    | some y=>
      obtain⟨g1,g2,g3⟩:=jff hl
      have:=(hT y g1).1
      omega
  rw[this]
  simp
 ·simp
theorem kfh (t:Tab w h T) (hw:1≤w∧w≤6) (hh:1≤h∧h≤6) (x:SgT):jbm fuel (((w:Int),(h:Int)),x)=some (jca T x).2:=by
 unfold jbm
 have:=j0r t hw hh x
 simp only at this ⊢
 rw[this,Option.bind_some]
end
theorem kcp {a:Int×Int} (h1:0≤a.1) (h2:a.1≤255) (h3:0≤a.2) (h4:a.2≤255):∃w h:Nat,(1≤w∧w≤5)∧(1≤h∧h≤5)∧jis fuel a=some ((w:Int),(h:Int)):=by
 refine⟨1+ (a.1%5).toNat,1+ (a.2%5).toNat,by omega,by omega,?_⟩
 apply Ret.eq
 unfold jis
 refine jac (by simp;omega) (jac (jan (by omega) (by omega)) (jac (jan (by omega) (by omega)) (jac (by simp;omega) (jac (jan (by omega) (by omega)) (jac (jan (by omega) (by omega)) (jas ?_))))))
 exact Prod.ext (by simp only;omega) (by simp only;omega)
theorem jfw:Ret ((jbh fuel ()).bind fun r=>some r) fun x=>x=true:=by rw[j4y];exact jas rfl
theorem jj1 (tab:∀w h:Nat,(1≤w∧w≤5)→(1≤h∧h≤5)→∃T,Tab w h T) {a:Int×Int} {x:SgT} (h1:0≤a.1) (h2:a.1≤255) (h3:0≤a.2) (h4:a.2≤255):
  jbz fuel (a,x)=some true:=by
 obtain⟨w,h,hw,hh,e⟩:=kcp h1 h2 h3 h4
 obtain⟨T,t⟩:=tab w h hw hh
 have hw':1≤w∧w≤6:=by omega
 have hh':1≤h∧h≤6:=by omega
 have hT:=t.tb hw'.2 hh'.2
 apply Ret.eq
 unfold jbz
 simp only
 rw[show(a.1,a.2)=a from rfl,e,Option.bind_some]
 rw[show(x.1,((x.2.1.1,x.2.1.2),(x.2.2.1,x.2.2.2)))=x from rfl]
 have eU:=j0r t hw' hh' x
 have eC:=kfh t hw' hh' x
 have eR:=juu t hw' hh' x
 simp only
 rw[eU,Option.bind_some]
 refine jnh (fun b=>b=true↔64<x.2.2.2∨x.2.2.1 < -64) (fun b hb=>?_) fun j hj=>?_
 rotate_left
 ·refine jaf (fun g=>hj _ (by simp[g])) fun g=>hj _ (by simp[g])
 ·refine jcr (fun hbt=>?_) fun hbf=>?_
  ·have hfar:=j9m hT (hb.1 hbt)
   refine jaf (fun _=>?_) fun g=>absurd hfar (by simpa using g)
   rw[eC,Option.bind_some]
   refine jaf (fun _=>?_) fun g=>absurd rfl g
   rw[j9l hfar]
   exact jaf (fun _=>jfw) fun g=>absurd rfl g
  ·rw[eR,Option.bind_some]
   refine jnh (fun b=>b=false) (fun b hb=>?_) fun j hj=>?_
   rotate_left
   ·refine jaf (fun g=>absurd rfl g) fun _=>?_
    rw[eC,Option.bind_some]
    exact jaf (fun g=>absurd rfl g) fun _=>jaf (fun g=>absurd rfl g) fun _=>hj _ (decide_eq_false fun g=>g rfl)
   ·refine jcr (fun g=>by rw[hb] at g;cases g) fun _=>?_
    generalize hL:(jca T x).1=L
    have hLl:L.length≤24:=by
     have:=jyi hT x
     rw[hL] at this
     exact this
    refine ja7 (fun i:Int=>0≤i∧i≤L.length) (fun i=>L.length-i.toNat) ?_ fuel 0 ⟨by omega,by omega⟩ (by simp only[fuel];omega)
    rintro i rec ⟨i0,i1⟩ hrec
    refine jaf (fun hlt=>?_) fun _=>jfw
    refine jac (jeg i0 hlt) (jac (jeg i0 hlt) ?_)
    simp only[decide_true,Bool.and_self,Bool.not_true,cond_false]
    exact jac (jan (by omega) (by omega)) (hrec _ ⟨by omega,by omega⟩ (by omega))
end X
end Go.Vm
namespace Go.Vm
namespace X
open W
def isU (u:UnT) (c:jc1):Bool:=decide (c.1=u.1)&&decide (c.2.1=u.2)
theorem jr2 {u:UnT} {c:jc1}:isU u c=true↔(c.1,c.2.1)=u:=by
 simp[isU,Prod.ext_iff]
def jau (out:List jc1) (u:UnT):Int:=match out.find? (isU u) with
 | some c=>c.2.2
 | none=>0
def jbk (c:jc1):UnT:=(c.1,c.2.1)
abbrev UT:Ty:=.prod (.int .i64) (.int .u8)
abbrev K8:Ty:=.int .u8
theorem jsz (a b:UnT):UT.eqb a b=true↔a=b:=by
 obtain⟨a1,a2⟩:=a
 obtain⟨b1,b2⟩:=b
 simp only[Ty.eqb]
 by_cases h1:a1=b1
 ·simp[h1]
 ·simp[h1]
theorem j6m (u v:UnT) (k:Int):∀L:List (UnT×Int),jd6 UT K8 u (jpe UT K8 v k L)=if u=v then some k else jd6 UT K8 u L
 | []=>by
   show(bif UT.eqb u v then some k else none)=_
   by_cases h:u=v
   ·rw[if_pos h,(jsz u v).2 h];rfl
   ·rw[if_neg h]
    cases hq:UT.eqb u v with
    | true=>exact absurd ((jsz u v).1 hq) h
    | false=>rfl
 | a::L=>by
   show jd6 UT K8 u (bif UT.eqb v a.1 then(v,k)::L else a::jpe UT K8 v k L)=if u=v then some k else(bif UT.eqb u a.1 then some a.2 else jd6 UT K8 u L)
   cases hv:UT.eqb v a.1 with
   | true=>
     have hva:=(jsz _ _).1 hv
     show(bif UT.eqb u v then some k else jd6 UT K8 u L)=_
     by_cases h:u=v
     ·rw[if_pos h,(jsz u v).2 h];rfl
     ·rw[if_neg h]
      cases hq:UT.eqb u v with
      | true=>exact absurd ((jsz u v).1 hq) h
      | false=>
        cases hq2:UT.eqb u a.1 with
        | true=>exact absurd (((jsz u a.1).1 hq2).trans hva.symm) h
        | false=>rfl
   | false=>
     show(bif UT.eqb u a.1 then some a.2 else jd6 UT K8 u (jpe UT K8 v k L))=_
     cases hq2:UT.eqb u a.1 with
     | true=>
       have e:=(jsz u a.1).1 hq2
       have:u≠v:=fun e2=>by
        have h1:=(jsz v a.1).2 (e2▸e)
        rw[hv] at h1
        cases h1
       rw[if_neg this]
       rfl
     | false=>
       rw[cond_false,cond_false,j6m u v k L]
structure OutOK (T:List LiT) (out:List jc1):Prop where
 nd:(out.map jbk).Nodup
 sub:∀c∈out,jbk c∈T.map (·.1)
 k1:∀c∈out,1≤c.2.2∧c.2.2≤3
theorem jnw {out:List jc1} (hn:(out.map jbk).Nodup) {c:jc1} (hc:c∈out):jau out (jbk c)=c.2.2:=by
 unfold jau
 cases h:out.find? (isU (jbk c)) with
 | none=>exact absurd (jr2.2 rfl) (List.find?_eq_none.1 h c hc)
 | some d=>
   have h1:=List.mem_of_find?_eq_some h
   have h2:=jr2.1 (List.find?_some h)
   obtain⟨i,hi,rfl⟩:=List.getElem_of_mem hc
   obtain⟨j,hj,rfl⟩:=List.getElem_of_mem h1
   have:=jqv hn (i:=i) (j:=j) (by simpa using hi) (by simpa using hj) (by simpa[jbk] using h2.symm)
   subst this
   rfl
theorem jnx {T:List LiT} {out:List jc1} (ho:OutOK T out) {u:UnT}:jau out u=0↔u∉out.map jbk:=by
 unfold jau
 cases h:out.find? (isU u) with
 | none=>
   refine⟨fun _ hm=>?_,fun _=>rfl⟩
   obtain⟨c,hc,e⟩:=List.mem_map.1 hm
   exact absurd (jr2.2 e) (List.find?_eq_none.1 h c hc)
 | some c=>
   have h1:=List.mem_of_find?_eq_some h
   have h2:=jr2.1 (List.find?_some h)
   have:=ho.k1 c h1
   refine⟨fun e=>by simp only at e;omega,fun hn=>absurd (List.mem_map.2 ⟨c,h1,h2⟩) hn⟩
theorem jxq {T:List LiT} {out:List jc1} (ho:OutOK T out) {v:UnT} {k:Int} (hv:jau out v=0) (u:UnT):jau (out++[(v.1,(v.2,k))]) u=if u=v then k else jau out u:=by
 have hnot:=(jnx ho).1 hv
 unfold jau
 rw[List.find?_append]
 by_cases h:u=v
 ·subst h
  have:out.find? (isU u)=none:=List.find?_eq_none.2 fun c hc hq=>hnot (List.mem_map.2 ⟨c,hc,jr2.1 hq⟩)
  rw[this,if_pos rfl]
  simp[isU]
 ·rw[if_neg h]
  cases hf:out.find? (isU u) with
  | some c=>rfl
  | none=>
    have:isU u (v.1,(v.2,k))=false:=by
     cases hq:isU u (v.1,(v.2,k)) with
     | false=>rfl
     | true=>exact absurd (jr2.1 hq).symm h
    simp[this]
theorem OutOK.add {T:List LiT} {out:List jc1} (ho:OutOK T out) {v:UnT} {k:Int} (hv:jau out v=0) (hT:v∈T.map (·.1)) (hk:1≤k∧k≤3):OutOK T (out++[(v.1,(v.2,k))]):=by
 have hnot:=(jnx ho).1 hv
 refine⟨?_,fun c hc=>?_,fun c hc=>?_⟩
 ·rw[List.map_append,List.nodup_append]
  refine⟨ho.nd,by simp,fun a ha b hb e=>?_⟩
  have:b=v:=by simpa[jbk] using hb
  subst this
  subst e
  exact hnot ha
 ·rcases List.mem_append.1 hc with hc | hc
  ·exact ho.sub c hc
  ·rw[List.mem_singleton.1 hc];exact hT
 ·rcases List.mem_append.1 hc with hc | hc
  ·exact ho.k1 c hc
  ·rw[List.mem_singleton.1 hc];exact hk
theorem OutOK.len {w h:Nat} {T:List LiT} (t:Tab w h T) (hw:w≤6) (hh:h≤6) {out:List jc1} (ho:OutOK T out):out.length≤1000:=by
 have:=ho.nd.length_le_of_subset (l₂:=T.map (·.1)) (fun u hu=>by
  obtain⟨c,hc,rfl⟩:=List.mem_map.1 hu
  exact ho.sub c hc)
 have:=t.len hw hh
 simp only[List.length_map] at *
 omega
def j3v (k:Int):List jc1→List UnT→Option (List jc1)
 | out,[]=>some out
 | out,v::us=>if jau out v=0 then j3v k (out++[(v.1,(v.2,k))]) us else none
noncomputable def j3u (T:List LiT):Int→List jc1→List SgT→(List jc1) ⊕ (Int×Int)
 | _,out,[]=>.inl out
 | i,out,x::l=>if(jca T x).2=0 then(match j3v x.1 out (jca T x).1 with
   | none=>.inr (i,8)
   | some out'=>j3u T (i+1) out' l) else .inr (i,(jca T x).2)
theorem kfn {T:List LiT} {l:Int×Int} {tq:Int}:∀(n:Nat) (p:Int) (u:List UnT),wk T l tq n p=some u→∀v∈u,v∈T.map (·.1)
 | 0,_,_,h=>by cases h
 | n+1,p,u,h=>by
   simp only[wk] at h
   split at h
   ·cases h;intro v hv;cases hv
   ·cases hl:lkT T l p with
    | none=>rw[hl] at h;cases h
    | some x=>
      rw[hl] at h
      simp only at h
      split at h
      ·cases h
      ·obtain⟨v,hv,rfl⟩:=Option.map_eq_some_iff.1 h
       intro a ha
       rcases List.mem_cons.1 ha with rfl | ha
       ·exact List.mem_map.2 ⟨x,(jff hl).1,rfl⟩
       ·exact kfn n _ v hv a ha
theorem jub {T:List LiT} {x:SgT}:∀v∈(jca T x).1,v∈T.map (·.1):=by
 unfold jca
 by_cases ho:OrdP x
 ·rw[if_pos ho]
  cases hu:wkS T x.2.1 x.2.2.2 x.2.2.1 with
  | none=>intro v hv;cases hv
  | some u=>exact kfn _ _ _ hu
 ·rw[if_neg ho];intro v hv;cases hv
theorem jxe {T:List LiT} {x:SgT} (h:(jca T x).2=0):1≤x.1∧x.1≤3:=by
 unfold jca at h
 by_cases ho:OrdP x
 ·exact⟨ho.k1,ho.k3⟩
 ·rw[if_neg ho] at h;cases h
theorem j5q {T:List LiT} {k:Int} (hk:1≤k∧k≤3):∀(us:List UnT) (out out':List jc1),OutOK T out→(∀v∈us,v∈T.map (·.1))→j3v k out us=some out'→OutOK T out'
 | [],out,out',ho,_,e=>by cases e;exact ho
 | v::us,out,out',ho,hu,e=>by
   simp only[j3v] at e
   split at e
   ·rename_i h0
    exact j5q hk us _ _ (ho.add h0 (hu v (List.mem_cons_self ..)) hk) (fun a ha=>hu a (List.mem_cons_of_mem _ ha)) e
   ·cases e
theorem kan {T:List LiT}:∀(l:List SgT) (i:Int) (out out':List jc1),OutOK T out→j3u T i out l=.inl out'→OutOK T out'
 | [],i,out,out',ho,e=>by cases e;exact ho
 | x::l,i,out,out',ho,e=>by
   simp only[j3u] at e
   split at e
   ·rename_i h0
    cases ha:j3v x.1 out (jca T x).1 with
    | none=>rw[ha] at e;cases e
    | some o2=>
      rw[ha] at e
      exact kan l _ _ _ (j5q (jxe h0) _ _ _ ho jub ha) e
   ·cases e
theorem ju4 {T:List LiT}:OutOK T []:=⟨List.nodup_nil,(fun c hc=>by cases hc),(fun c hc=>by cases hc)⟩
def jzv (T:List LiT) (out:List jc1):List jc1:=T.filterMap fun x=>if jau out x.1=0 then none else some (x.1.1,(x.1.2,jau out x.1))
theorem ker {T:List LiT} {out:List jc1} (ho:OutOK T out) (c:jc1):c∈jzv T out↔c∈out:=by
 unfold jzv
 rw[List.mem_filterMap]
 constructor
 ·rintro ⟨x,hx,e⟩
  split at e
  ·cases e
  ·rename_i h0
   have:∃d∈out,jbk d=x.1:=by
    have:x.1∈out.map jbk:=by
     apply Classical.byContradiction
     intro hn
     exact h0 ((jnx ho).2 hn)
    exact List.mem_map.1 this
   obtain⟨d,hd,ed⟩:=this
   have hk:=jnw ho.nd hd
   rw[ed] at hk
   rw[hk] at e
   cases e
   rw[←ed]
   exact hd
 ·intro hc
  obtain⟨x,hx,ex⟩:=List.mem_map.1 (ho.sub c hc)
  refine⟨x,hx,?_⟩
  have hk:=jnw ho.nd hc
  have:=ho.k1 c hc
  rw[ex,hk,if_neg (by omega)]
  rfl
theorem w64 {n:Int} (h:0≤n) (h2:n≤1000):RowKit.wrap64 n=n:=by unfold RowKit.wrap64;omega
theorem jk9 {w h:Nat} {T:List LiT} (t:Tab w h T) (out:List jc1):(jzv T out).Pairwise fun a b=>cfC a b<0:=by
 have hp:T.Pairwise fun x y=>x∈T∧y∈T∧(x.1.1<y.1.1∨x.1.1=y.1.1∧x.1.2<y.1.2):=by
  have:=List.pairwise_map.1 t.asc
  rw[List.pairwise_iff_getElem] at this ⊢
  intro i j hi hj hij
  exact⟨List.getElem_mem _,List.getElem_mem _,this i j hi hj hij⟩
 refine List.Pairwise.filterMap _ (fun x y hxy a ha b hb=>?_) hp
 obtain⟨hx,hy,hlt⟩:=hxy
 have lx:=t.li hx
 have ly:=t.li hy
 split at ha<;>simp only[Option.mem_def,reduceCtorEq,Option.some.injEq] at ha
 split at hb<;>simp only[Option.mem_def,reduceCtorEq,Option.some.injEq] at hb
 subst ha hb
 rw[js1]
 simp only
 rw[w64 lx.e0 (by have:=lx.e2;omega),w64 ly.e0 (by have:=ly.e2;omega)]
 exact hlt
theorem jvu {w h:Nat} {T:List LiT} (t:Tab w h T) {out:List jc1} (ho:OutOK T out):out.Perm (jzv T out):=by
 have n1:out.Nodup:=List.Pairwise.of_map _ (fun a b h e=>h (by rw[e])) ho.nd
 have n2:(jzv T out).Nodup:=(jk9 t out).imp fun {a b} h e=>by subst e;rw[js1] at h;omega
 exact(List.perm_ext_iff_of_nodup n1 n2).2 fun c=>(ker ho c).symm
theorem j1c {w h:Nat} {T:List LiT} (t:Tab w h T) {out:List jc1} (ho:OutOK T out):sortC cfC out=jzv T out:=by
 have hs:=jk9 t out
 have hp:=(jea cfC out).trans (jvu t ho)
 refine jkf cfC (fun x hx y hy h1 h2=>?_) (jjt cfC kq7 out) (hs.imp fun {a b} h c=>by rw[js1] at *;omega) hp
 have hx:=hp.subset hx
 have hy:=hp.subset hy
 obtain⟨i,hi,rfl⟩:=List.getElem_of_mem hx
 obtain⟨j,hj,rfl⟩:=List.getElem_of_mem hy
 rw[List.pairwise_iff_getElem] at hs
 rcases Nat.lt_trichotomy i j with g | g | g
 ·exact absurd (hs i j hi hj g) h1
 ·subst g;rfl
 ·exact absurd (hs j i hj hi g) h2
theorem kd5 {w h:Nat} {T:List LiT} (t:Tab w h T) {out:List jc1} (ho:OutOK T out):okC out=true:=by
 unfold okC
 rw[j1c t ho]
 exact j4j (jk9 t out)
end X
end Go.Vm
namespace Go.Vm
namespace X
open W
section
variable {w h:Nat} {T:List LiT}
theorem kdh (hT:TB T) {l:Int×Int} {tq:Int} {β:Type} (bad:β) (K:List UnT→Option β)
  {step:((List UnT×Int)→Option β)→(List UnT×Int)→Option β}
  (hs:∀rec s,step rec s=bif(decide (s.2≠tq)) then(bif(!(jd6 KT VT ((l.1,l.2),s.2) (j4t T)).isSome) then(some bad) else(bif(decide (tq< ((jd6 KT VT ((l.1,l.2),s.2) (j4t T)).getD ((0,0),0)).2)) then(some bad) else(chk (jeo (s.1.length+1)) (rec ((s.1++[(((jd6 KT VT ((l.1,l.2),s.2) (j4t T)).getD ((0,0),0)).1.1,((jd6 KT VT ((l.1,l.2),s.2) (j4t T)).getD ((0,0),0)).1.2)]),((jd6 KT VT ((l.1,l.2),s.2) (j4t T)).getD ((0,0),0)).2))))) else K s.1) (p:Int):
  jbl step fuel ([],p)=(match wkS T l tq p with
   | none=>some bad
   | some u=>K u):=by
 refine(jk3 (fun s:List UnT×Int=>(s.1=[]∨(0≤s.2∧s.2≤24∧s.1.length≤s.2.toNat))) (fun s=>mm s.2) (fun s=>(match wkS T l tq s.2 with
  | none=>some bad
  | some u=>K (s.1++u))) ?_ fuel ([],p) (.inl rfl) (by unfold mm;simp only[fuel];split<;>omega)).trans (by simp)
 rintro ⟨A,p⟩ rec hI hrec
 simp only at hI
 rw[hs,jt7 hT]
 simp only
 by_cases hp:p=tq
 ·simp only[hp,ne_eq,not_true_eq_false,decide_false,cond_false,if_true]
  rw[List.append_nil]
 ·simp only[hp,ne_eq,not_false_eq_true,decide_true,cond_true,if_false]
  rw[show(l.1,l.2)=l from rfl,jvh]
  cases hl:lkT T l p with
  | none=>rfl
  | some x=>
    obtain⟨h1,h2,h3⟩:=jff hl
    obtain⟨b1,b2,b3⟩:=hT x h1
    simp only[Option.map_some,Option.isSome_some,Bool.not_true,cond_false,Option.getD_some]
    by_cases hq:tq<x.2.2.2
    ·simp only[hq,decide_true,cond_true,if_true]
    ·simp only[hq,decide_false,cond_false,if_false]
     have hA:A.length≤p.toNat:=by rcases hI with e | ⟨_,_,e⟩<;>(try subst e)<;>(try simp)<;>omega
     rw[jg9 (by omega)]
     simp only[chk,cond_true]
     rw[hrec (A++[x.1],x.2.2.2) (.inr ⟨by simp only;omega,by simp only;omega,by simp only[List.length_append,List.length_singleton];omega⟩) (by
      unfold mm
      simp only
      rw[if_pos (by omega),if_pos (by omega)]
      omega)]
     simp only
     cases wkS T l tq x.2.2.2 with
     | none=>rfl
     | some u=>simp
theorem j9n {x:SgT} (h:¬OrdP x):jca T x=([],1):=by unfold jca;rw[if_neg h]
theorem jxf {x:SgT} (h:OrdP x):jca T x=(match wkS T x.2.1 x.2.2.2 x.2.2.1 with
 | none=>([],7)
 | some u=>(u,0)):=by
 unfold jca
 rw[if_pos h]
 try (cases wkS T x.2.1 x.2.2.2 x.2.2.1<;>rfl)
theorem kgq (hT:TB T) {l:Int×Int} {tq p:Int} {u:List UnT} (h:wkS T l tq p=some u):u.length≤24:=by
 rcases j9g hT _ _ _ h with rfl | ⟨g1,g2,g3⟩
 ·simp
 ·omega
abbrev kcx:=Int×(Int×List jc1)
noncomputable def j6h (T:List LiT) (w h:Nat) (l:List SgT):kcx×(Int×Int):=match j3u T 0 [] l with
 | .inl out=>(((w:Int),((h:Int),jzv T out)),(0,0))
 | .inr e=>((0,(0,[])),e)
noncomputable def j89 (T:List LiT) (w h:Nat) (l:List SgT) (i:Nat) (out:List jc1):kcx×(Int×Int):=match j3u T (i:Int) out (l.drop i) with
 | .inl out=>(((w:Int),((h:Int),jzv T out)),(0,0))
 | .inr e=>((0,(0,[])),e)
def MapOK (out:List jc1) (M:List (UnT×Int)):Prop:=∀u,(jd6 UT K8 u M).getD 0=jau out u
theorem MapOK.add {out:List jc1} (ho:OutOK T out) {M:List (UnT×Int)} (hM:MapOK out M) {v:UnT} {k:Int} (hv:jau out v=0):MapOK (out++[(v.1,(v.2,k))]) (jpe UT K8 v k M):=fun u=>by
 rw[j6m,jxq ho hv]
 by_cases e:u=v
 ·rw[if_pos e,if_pos e];rfl
 ·rw[if_neg e,if_neg e,hM u]
theorem jgm {α:Type} {l:List α} {i:Nat} (hi:i<l.length):l.drop i=l[i]::l.drop (i+1):=List.drop_eq_getElem_cons hi
theorem jdv {α:Type} {l:List α} {i:Nat} {d:α} (hi:i<l.length):l.getD ((i:Int).toNat) d=l[i]:=by
 rw[Int.toNat_natCast,List.getD_eq_getElem?_getD,List.getElem?_eq_getElem hi];rfl
theorem jyf (t:Tab w h T) (hw:1≤w∧w≤6) (hh:1≤h∧h≤6) {l:List SgT} (hl:l.length≤1000000):jba fuel (((w:Int),(h:Int)),l)=some (j6h T w h l):=by
 have hT:=t.tb hw.2 hh.2
 unfold jba
 simp only
 rw[jeb hw hh,Option.bind_some]
 simp only[ne_eq,not_true_eq_false,decide_false,cond_false]
 rw[j1p t hw hh,Option.bind_some]
 refine(jk3 (fun s:List jc1×(Int×((Int×(Int×Unit))×List (UnT×Int)))=>∃i:Nat,s.2.1=(i:Int)∧i≤l.length∧OutOK T s.1∧MapOK s.1 s.2.2.2) (fun s=>l.length-s.2.1.toNat) (fun s=>some (j89 T w h l s.2.1.toNat s.1)) ?_ fuel _ ⟨0,rfl,Nat.zero_le _,ju4,fun u=>rfl⟩ (by simp only[fuel];omega)).trans rfl
 rintro ⟨out,i',vv,M⟩ rec ⟨i,hi',hi,ho,hM⟩ hrec
 simp only at hi' ho hM
 subst hi'
 simp only
 have hob:=ho.len t hw.2 hh.2
 by_cases hlt:(i:Int)< ((l.length:Nat):Int)
 ·have hi2:i<l.length:=by omega
  simp only[hlt,decide_true,cond_true]
  rw[jeg (by omega) hlt]
  simp only[chk,cond_true]
  rw[jdv hi2]
  generalize hx:l[i]=x
  rw[show(x.1,((x.2.1.1,x.2.1.2),(x.2.2.1,x.2.2.2)))=x from rfl]
  obtain⟨b,eb,hb⟩:=ju5 x
  rw[eb,Option.bind_some]
  have hdrop:l.drop i=x::l.drop (i+1):=by rw[jgm hi2,hx]
  cases b with
  | false=>
    have hno:¬OrdP x:=fun h=>by have:=hb.2 h;cases this
    simp only[Bool.not_false,cond_true]
    unfold j89
    rw[Int.toNat_natCast,hdrop]
    simp only[j3u]
    rw[j9n hno]
    rfl
  | true=>
    have hyes:=hb.1 rfl
    simp only[Bool.not_true,cond_false]
    refine(kdh hT (l:=x.2.1) (tq:=x.2.2.2) (((0,(0,[])),((i:Int),7)):kcx×(Int×Int)) (fun A=>(chk (bnb 0 ((A.length:Nat):Int) A.length&&decide (((A.length:Nat):Int)≤((A.length:Nat):Int))&&decide (((A.length:Nat):Int)≤((A.length:Nat):Int))) (jbl (fun rec6 (x6:((List (Int×(Int×Int)))×(Int×((Int×(Int×Unit))×(List ((Int×Int)×Int))))))=>bif(decide (x6.2.1< ((A.length:Nat):Int))) then(chk (inb x6.2.1 A.length) (bif(decide (((jd6 (.prod (.int .i64) (.int .u8)) (.int .u8) ((A.getD (0+x6.2.1.toNat) (0,0)).1,(A.getD (0+x6.2.1.toNat) (0,0)).2) x6.2.2.2).getD 0)≠0)) then(some ((0,(0,[])),((i:Int),8))) else(chk (jeo (x6.1.length+1)) (chk (jal (x6.2.1+1)) (rec6 ((x6.1++[((A.getD (0+x6.2.1.toNat) (0,0)).1,((A.getD (0+x6.2.1.toNat) (0,0)).2,x.1))]),((x6.2.1+1),((x6.2.2.1.1,(x6.2.2.1.2.1,())),(jpe (.prod (.int .i64) (.int .u8)) (.int .u8) ((A.getD (0+x6.2.1.toNat) (0,0)).1,(A.getD (0+x6.2.1.toNat) (0,0)).2) x.1 x6.2.2.2))))))))) else(chk (jal ((i:Int)+1)) (rec (x6.1,(((i:Int)+1),((x6.2.2.1.1,(x6.2.2.1.2.1,())),x6.2.2.2)))))) fuel (out,(0,((vv.1,(vv.2.1,())),M)))))) (fun rec s=>rfl) x.2.2.1).trans ?_
    have hU:=jxf (T:=T) hyes
    have hW:∀u,wkS T x.2.1 x.2.2.2 x.2.2.1=some u→jca T x=(u,0):=fun u hu=>by rw[hU,hu]
    cases hu:wkS T x.2.1 x.2.2.2 x.2.2.1 with
    | none=>
      rw[hu] at hU
      simp only at hU ⊢
      unfold j89
      rw[Int.toNat_natCast,hdrop]
      simp only[j3u]
      rw[hU]
      rfl
    | some A=>
      have hUA:=hW A hu
      have hA24:=kgq hT hu
      have hAm:∀v∈A,v∈T.map (·.1):=by have:=jub (T:=T) (x:=x);rw[hUA] at this;exact this
      simp only
      have e1:bnb 0 ((A.length:Nat):Int) A.length=true:=jje.2 ⟨by omega,by omega,by omega⟩
      simp only[e1,Int.le_refl,decide_true,Bool.and_self,chk,cond_true]
      have hpat:some (j89 T w h l i out)=(match j3v x.1 out A with
        | none=>some (((0,(0,[])),((i:Int),8)):kcx×(Int×Int))
        | some out'=>some (j89 T w h l (i+1) out')):=by
       unfold j89
       rw[hdrop]
       simp only[j3u]
       rw[hUA]
       simp only[if_true]
       cases j3v x.1 out A with
       | none=>rfl
       | some o=>rw[show((i+1:Nat):Int)=(i:Int)+1 by omega]
      rw[Int.toNat_natCast,hpat]
      refine(jk3 (fun s:List jc1×(Int×((Int×(Int×Unit))×List (UnT×Int)))=>∃j:Nat,s.2.1=(j:Int)∧j≤A.length∧OutOK T s.1∧MapOK s.1 s.2.2.2) (fun s=>A.length-s.2.1.toNat) (fun s=>(match j3v x.1 s.1 (A.drop s.2.1.toNat) with
       | none=>some (((0,(0,[])),((i:Int),8)):kcx×(Int×Int))
       | some out'=>some (j89 T w h l (i+1) out'))) ?_ fuel _ ⟨0,rfl,Nat.zero_le _,ho,hM⟩ (by simp only[fuel];omega)).trans (by simp)
      rintro ⟨o6,j',v6,M6⟩ rec6 ⟨j,hj',hj,ho6,hM6⟩ hrec6
      simp only at hj' ho6 hM6
      subst hj'
      simp only
      have ho6b:=ho6.len t hw.2 hh.2
      by_cases hjl:(j:Int)< ((A.length:Nat):Int)
      ·have hj2:j<A.length:=by omega
       simp only[hjl,decide_true,cond_true]
       rw[jeg (by omega) hjl]
       simp only[chk,cond_true]
       rw[Nat.zero_add,jdv hj2,Int.toNat_natCast,jgm hj2]
       generalize hv:A[j]=v
       have hvT:v∈T.map (·.1):=hAm v (by rw[←hv];exact List.getElem_mem _)
       rw[show(v.1,v.2)=v from rfl,hM6 v]
       simp only[j3v]
       by_cases h0:jau o6 v=0
       ·simp only[h0,ne_eq,not_true_eq_false,decide_false,cond_false,if_true]
        rw[jg9 (by omega),jan (by omega) (by omega)]
        simp only[chk,cond_true]
        rw[hrec6 _ ⟨j+1,by simp,hj2,ho6.add h0 hvT ⟨hyes.k1,hyes.k3⟩,hM6.add ho6 h0⟩ (by simp only;omega)]
        simp only
        rw[show((j:Int)+1).toNat=j+1 by omega]
       ·simp only[h0,ne_eq,not_false_eq_true,decide_true,cond_true,if_false]
      ·have hj2:j=A.length:=by omega
       subst hj2
       simp only[hjl,decide_false,cond_false]
       rw[jan (by omega) (by omega)]
       simp only[chk,cond_true]
       rw[Int.toNat_natCast,List.drop_length]
       simp only[j3v]
       rw[hrec _ ⟨i+1,by simp,hi2,ho6,hM6⟩ (by simp only;omega)]
       simp only
       rw[show((i:Int)+1).toNat=i+1 by omega]
 ·have hi2:i=l.length:=by omega
  subst hi2
  simp only[hlt,decide_false,cond_false]
  unfold jbf j89
  simp only
  rw[show(List.length (α:=jc1) out).ble 1000000=true by rw[jae];exact decide_eq_true (by omega),kd5 t ho,j1c t ho]
  simp only[Bool.and_self,cond_true,Option.map_some,Option.bind_some]
  have e1:bnb 0 (((jzv T out).length:Nat):Int) (jzv T out).length=true:=jje.2 ⟨by omega,by omega,by omega⟩
  simp only[e1,Int.le_refl,decide_true,Bool.and_self,chk,cond_true,List.take_length,jl0,Nat.beq_refl]
  rw[Int.toNat_natCast,List.drop_length]
  simp only[j3u]
end
end X
end Go.Vm
namespace Go.Vm
namespace X
open W
def jlu:List UnT→List Int→List jc1
 | u::U,k::A=>if k=0 then jlu U A else(u.1,(u.2,k))::jlu U A
 | _,_=>[]
section
variable {w h:Nat} {T:List LiT}
theorem kco (t:Tab w h T) (hw:1≤w∧w≤6) (hh:1≤h∧h≤6) {A:List Int} (hA:A.length≤1000000):jfs fuel (((w:Int),(h:Int)),A)=some ((w:Int),((h:Int),jlu (T.map (·.1)) A)):=by
 have hlen:=t.len hw.2 hh.2
 unfold jfs
 simp only
 rw[t.un,Option.bind_some]
 have hUl:(T.map (·.1)).length≤1000:=by simpa using hlen
 generalize T.map (·.1)=U at hUl
 refine(jk3 (fun s:Int×(Int×(Int×List jc1))=>∃i:Nat,s.1=(i:Int)∧i≤U.length∧s.2.2.2.length≤i∧s.2.1=(w:Int)∧s.2.2.1=(h:Int)) (fun s=>U.length-s.1.toNat) (fun s=>some ((w:Int),((h:Int),s.2.2.2++jlu (U.drop s.1.toNat) (A.drop s.1.toNat)))) ?_ fuel _ ⟨0,rfl,Nat.zero_le _,Nat.le_refl _,rfl,rfl⟩ (by simp only[fuel];omega)).trans (by simp)
 rintro ⟨i',w',h',acc⟩ rec ⟨i,hi',hi,hacc,hw',hh'⟩ hrec
 simp only at hi' hacc hw' hh'
 subst hi' hw' hh'
 simp only
 by_cases hlt:(i:Int)< ((U.length:Nat):Int)
 rotate_left
 ·have:i=U.length:=by omega
  subst this
  simp only[hlt,decide_false,cond_false]
  rw[Int.toNat_natCast,List.drop_length]
  simp[jlu]
 have hi2:i<U.length:=by omega
 simp only[hlt,decide_true,cond_true]
 by_cases hla:(i:Int)< ((A.length:Nat):Int)
 rotate_left
 ·simp only[hla,decide_false,cond_false]
  rw[Int.toNat_natCast,show A.drop i=[] from List.drop_eq_nil_of_le (by omega)]
  cases U.drop i<;>simp[jlu]
 have hi3:i<A.length:=by omega
 simp only[hla,decide_true,cond_true]
 rw[jeg (by omega) hla,jeg (by omega) hlt]
 simp only[chk,cond_true]
 rw[jdv hi3,jdv hi2,Int.toNat_natCast,jgm hi2,jgm hi3]
 simp only[jlu]
 by_cases h0:A[i]=0
 ·simp only[h0,ne_eq,not_true_eq_false,decide_false,cond_false,if_true]
  rw[jan (by omega) (by omega)]
  simp only[cond_true]
  rw[hrec _ ⟨i+1,by simp,hi2,by simp only;omega,rfl,rfl⟩ (by simp only;omega)]
  simp only
  rw[show((i:Int)+1).toNat=i+1 by omega]
 ·simp only[h0,ne_eq,not_false_eq_true,decide_true,cond_true,if_false]
  rw[jg9 (by omega),jan (by omega) (by omega)]
  simp only[cond_true]
  rw[hrec _ ⟨i+1,by simp,hi2,by simp only[List.length_append,List.length_singleton];omega,rfl,rfl⟩ (by simp only;omega)]
  simp only
  rw[show((i:Int)+1).toNat=i+1 by omega,List.append_assoc]
  rfl
theorem j04 (f:UnT→Int):∀T:List LiT,jlu (T.map (·.1)) (T.map fun x=>f x.1)=T.filterMap fun x=>if f x.1=0 then none else some (x.1.1,(x.1.2,f x.1))
 | []=>rfl
 | x::T=>by
   simp only[List.map_cons,jlu,List.filterMap_cons]
   rw[j04 f T]
   by_cases h:f x.1=0
   ·simp[h]
   ·simp[h]
theorem j77 (t:Tab w h T) (hw:1≤w∧w≤6) (hh:1≤h∧h≤6) {j:Nat} (hj:j<T.length):jkh fuel (((w:Int),(h:Int)),T[j].1)=some (j:Int):=by
 have hlen:=t.len hw.2 hh.2
 have hx:=List.getElem_mem hj
 have li:=t.li hx
 have l1:=li.u0;have l2:=li.u1;have l3:=li.e0;have l4:=li.e2
 have hrn:=List.all_eq_true.1 t.rn _ hx
 unfold ksf at hrn
 have hwh:4* (w:Int)*h≤4*6*6:=by
  have:w*h≤6*6:=Nat.mul_le_mul hw.2 hh.2
  have e:(4* (w:Int)*h)=4* ((w*h:Nat):Int):=by rw[Int.natCast_mul,Int.mul_assoc]
  omega
 unfold jkh
 simp only
 have n1:¬(T[j].1.1<0):=by omega
 have n2:¬(4* (w:Int)*h≤T[j].1.1):=by omega
 have n3:¬(T[j].1.2<0):=by omega
 have n4:¬((2:Int)<T[j].1.2):=by omega
 have hw2:(0:Int)≤4* (w:Int)*h:=by omega
 simp only[n1,decide_false,cond_false]
 rw[jan (by omega) (by omega),jan (by omega) (by omega)]
 simp only[chk,cond_true,n2,n3,n4,decide_false,cond_false]
 split at hrn<;>try (cases hrn;done)
 rename_i n hn
 rw[hn,Option.bind_some,t.un,Option.bind_some]
 have hgt:T[j].1.1<n:=by simpa using hrn
 apply Ret.eq
 refine ja7 (fun i:Int=>0≤i∧i≤j) (fun i=>j+1-i.toNat) ?_ fuel 0 ⟨by omega,by omega⟩ (by simp only[fuel];omega)
 rintro i' rec ⟨i0,i1⟩ hrec
 obtain⟨i,rfl⟩:∃i:Nat,i'=(i:Int):=⟨i'.toNat,by omega⟩
 have hi:i<T.length:=by omega
 have hg:(T.map (·.1)).getD ((i:Int).toNat) (0,0)=T[i].1:=by
  rw[Int.toNat_natCast,List.getD_eq_getElem?_getD,List.getElem?_map,List.getElem?_eq_getElem hi];rfl
 rw[hg]
 have hin:inb (i:Int) (T.map (·.1)).length=true:=jeg (by omega) (by rw[List.length_map];omega)
 refine jaf (fun _=>?_) fun g=>absurd (show(i:Int)< (((T.map (·.1)).length:Nat):Int) by rw[List.length_map];omega) g
 refine jaf (fun _=>jac hin ?_) fun g=>absurd (show(0:Int)≤n by omega) g
 have hmin:min T[j].1.1 n=T[j].1.1:=by omega
 rw[hmin]
 have next:T[i].1≠T[j].1→Ret (chk (jal ((i:Int)+1)) (rec ((i:Int)+1))) fun x=>x=(j:Int):=fun hne=>by
  have:i≠j:=fun e=>by subst e;exact hne rfl
  exact jac (jan (by omega) (by omega)) (hrec _ ⟨by omega,by omega⟩ (by omega))
 have lii:=t.li (List.getElem_mem hi)
 have:=lii.e0;have:=lii.e2
 refine jaf (fun g1=>jac hin (jac (jan (by omega) (by omega)) (jaf (fun g2=>jas ?_) fun g2=>next fun e=>g2 (by rw[e])))) fun g1=>next fun e=>g1 (by rw[e])
 have:=t.unitInj (List.getElem_mem hi) hx (Prod.ext g1 g2)
 have hij:i=j:=by
  have hnd:=t.ndU
  exact jqv hnd (i:=i) (j:=j) (by simpa using hi) (by simpa using hj) (by simp[this])
 rw[hij]
theorem jyr (t:Tab w h T) (hw:1≤w∧w≤6) (hh:1≤h∧h≤6) {l:List SgT} (hl:l.length≤1000000):jgd fuel (((w:Int),(h:Int)),l)=some (j6h T w h l):=by
 have hT:=t.tb hw.2 hh.2
 have hlen:=t.len hw.2 hh.2
 unfold jgd
 simp only
 rw[t.un,Option.bind_some]
 have hUl:(T.map (·.1)).length=T.length:=by simp
 have e1:(decide (0≤(((T.map (·.1)).length:Nat):Int))&&decide ((((T.map (·.1)).length:Nat):Int)≤(((T.map (·.1)).length:Nat):Int))&&decide ((((T.map (·.1)).length:Nat):Int)≤1000000))=true:=by
  rw[hUl]
  simp only[Bool.and_eq_true,decide_eq_true_eq]
  omega
 apply Ret.eq
 refine jac e1 ?_
 refine ja7 (fun s:Int×((Int×(Int×Unit))×(List Int×Option Nat))=>∃(i:Nat) (out:List jc1),s.1=(i:Int)∧i≤l.length∧OutOK T out∧s.2.2.1=(T.map fun x=>jau out x.1)∧j89 T w h l i out=j6h T w h l) (fun s=>l.length-s.1.toNat) ?_ fuel _ ⟨0,[],rfl,Nat.zero_le _,ju4,?_,rfl⟩ (by simp only[fuel];omega)
 rotate_left
 ·simp only[List.length_map]
  clear e1 hT hlen hUl t
  induction T with
  | nil=>rfl
  | cons x T ih=>simp only[List.length_cons,List.replicate_succ,List.map_cons,ih];rfl
 rintro ⟨i',vv,A,cp⟩ rec ⟨i,out,hi',hi,ho,hA,hF⟩ hrec
 simp only at hi' hA
 subst hi' hA
 simp only
 refine jaf (fun hlt=>?_) fun hge=>?_
 ·have hi2:i<l.length:=by omega
  refine jac (jeg (by omega) hlt) ?_
  rw[jdv hi2]
  generalize hx:l[i]=x
  rw[show(x.1,((x.2.1.1,x.2.1.2),(x.2.2.1,x.2.2.2)))=x from rfl,juu t hw hh,Option.bind_some]
  have hdrop:l.drop i=x::l.drop (i+1):=by rw[jgm hi2,hx]
  have hF':(match j3u T (i:Int) out (l.drop i) with
   | .inl out=>((((w:Int),((h:Int),jzv T out)),(0,0)):kcx×(Int×Int))
   | .inr e=>((0,(0,[])),e))=j6h T w h l:=hF
  rw[hdrop] at hF'
  simp only[j3u] at hF'
  refine jaf (fun hne=>?_) fun h0=>?_
  ·rw[if_neg hne] at hF'
   exact jas hF'
  ·have h0:(jca T x).2=0:=by simpa using h0
   rw[if_pos h0] at hF'
   have hk:=jxe h0
   have hm:=jub (T:=T) (x:=x)
   have hle:=jyi hT x
   generalize (jca T x).1=us at hF' hm hle
   refine ja7 (fun s:Int×((Int×(Int×Unit))×(List Int×Option Nat))=>∃(j:Nat) (o6:List jc1),s.1=(j:Int)∧j≤us.length∧OutOK T o6∧s.2.2.1=(T.map fun x=>jau o6 x.1)∧(match j3v x.1 o6 (us.drop j) with
    | none=>(((0,(0,[])),((i:Int),8)):kcx×(Int×Int))
    | some out'=>j89 T w h l (i+1) out')=j6h T w h l) (fun s=>us.length-s.1.toNat) ?_ fuel _ ⟨0,out,rfl,Nat.zero_le _,ho,rfl,?_⟩ (by simp only[fuel];omega)
   rotate_left
   ·rw[List.drop_zero,←hF']
    cases j3v x.1 out us with
    | none=>rfl
    | some o=>
      simp only
      unfold j89
      rw[show((i+1:Nat):Int)=(i:Int)+1 by omega]
      try (cases j3u T ((i:Int)+1) o (l.drop (i+1))<;>rfl)
   rintro ⟨j',v6,A6,c6⟩ rec6 ⟨j,o6,hj',hj,ho6,hA6,hF6⟩ hrec6
   simp only at hj' hA6
   subst hj' hA6
   simp only
   refine jaf (fun hjl=>?_) fun hjg=>?_
   ·have hj2:j<us.length:=by omega
    have hin:inb (j:Int) us.length=true:=jeg (by omega) hjl
    rw[jgm hj2] at hF6
    rw[jdv hj2]
    obtain⟨y,hy,ey⟩:=List.mem_map.1 (hm us[j] (List.getElem_mem hj2))
    obtain⟨q,hq,rfl⟩:=List.getElem_of_mem hy
    have ey:T[q].1=us[j]:=ey
    generalize us[j]=v at hF6 ey ⊢
    subst ey
    have liq:=t.li hy
    have:=liq.e0;have:=liq.e2
    simp only[j3v] at hF6
    refine jac hin (jac hin (jac (jan (by omega) (by omega)) ?_))
    rw[show((T[q].1.1,T[q].1.2):Int×Int)=T[q].1 from rfl,j77 t hw hh hq,Option.bind_some]
    have hqi:inb (q:Int) (T.map fun x=>jau o6 x.1).length=true:=jeg (by omega) (by rw[List.length_map];omega)
    have hgq:(T.map fun x=>jau o6 x.1).getD ((q:Int).toNat) 0=jau o6 T[q].1:=by
     rw[Int.toNat_natCast,List.getD_eq_getElem?_getD,List.getElem?_map,List.getElem?_eq_getElem hq];rfl
    refine jac hqi ?_
    rw[hgq]
    refine jaf (fun hne=>?_) fun h00=>?_
    ·rw[if_neg hne] at hF6
     exact jas hF6
    ·have h00:jau o6 T[q].1=0:=by simpa using h00
     rw[if_pos h00] at hF6
     refine jac (jeg (by omega) hlt) (jac hqi (jac (jan (by omega) (by omega)) (hrec6 _ ⟨j+1,o6++[(T[q].1.1,(T[q].1.2,x.1))],by simp,hj2,ho6.add h00 (List.mem_map.2 ⟨_,hy,rfl⟩) hk,?_,hF6⟩ (by simp only;omega))))
     simp only
     rw[Int.toNat_natCast]
     refine List.ext_getElem (by simp) fun p hp1 hp2=>?_
     rw[List.getElem_set]
     simp only[List.getElem_map]
     have hp:p<T.length:=by simpa using hp2
     have ek:=jxq ho6 (v:=T[q].1) (k:=x.1) h00 T[p].1
     refine Eq.trans ?_ ek.symm
     by_cases e:q=p
     ·subst e
      rw[if_pos rfl,if_pos rfl]
     ·rw[if_neg e,if_neg]
      intro e2
      have:=t.unitInj (List.getElem_mem hp) hy e2
      exact e (jqv t.ndU (i:=q) (j:=p) (by simpa using hq) (by simpa using hp) (by simp[this]))
   ·have hj2:j=us.length:=by omega
    subst hj2
    rw[List.drop_length] at hF6
    exact jac (jan (by omega) (by omega)) (hrec _ ⟨i+1,o6,by simp,hi2,ho6,rfl,hF6⟩ (by simp only;omega))
 ·have hi2:i=l.length:=by omega
  subst hi2
  rw[kco t hw hh (by simp;omega),Option.bind_some]
  refine jas ?_
  rw[←hF]
  unfold j89
  rw[List.drop_length]
  simp only[j3u]
  have:=j04 (jau out) T
  rw[this]
  rfl
end
end X
end Go.Vm
namespace Go.Vm
namespace X
open W Go.RowKit
section
variable {w h:Nat} {T:List LiT}
theorem j8i (T:List LiT) (l:Int×Int) (p:Int):lkT (T.filter fun x=>decide (x.2.1.1=l.1)&&decide (x.2.1.2=l.2)) l p=lkT T l p:=by
 unfold lkT
 rw[List.find?_filter]
 congr 1
 funext x
 unfold kbg
 cases decide (x.2.1.1=l.1)<;>cases decide (x.2.1.2=l.2)<;>simp
def atL (T:List LiT) (l:Int×Int):Nat→Option LiT:=fun p=>lkT T l (p:Int)
theorem kea (T:List LiT) (n:Nat) (l:Int×Int):khv T n l=(List.range n).filterMap (atL T l):=by
 unfold khv
 congr 1
 funext p
 exact j8i T l p
def lnL (T:List LiT) (w h:Nat) (k c:Nat):List LiT:=(List.range (2* (w+h)+1)).filterMap (atL T ((k:Int)+1,(c:Int)-(w:Int)))
def kdL (T:List LiT) (w h:Nat) (k:Nat):List LiT:=(List.range (w+ (w+h)+1)).flatMap (lnL T w h k)
theorem jyh (T:List LiT) (w h:Nat):jlv T w h=(List.range 4).flatMap (kdL T w h):=by
 unfold jlv kdL lnL
 simp only[kea]
theorem kcd {l:Int×Int} {p:Nat} {x:LiT} (e:atL T l p=some x):x∈T∧x.2.1=l∧x.2.2.1=p:=jff e
theorem ka7 {k c:Nat} {x:LiT} (e:x∈lnL T w h k c):x∈T∧x.2.1=((k:Int)+1,(c:Int)-(w:Int)):=by
 obtain⟨p,_,hp⟩:=List.mem_filterMap.1 e
 exact⟨(kcd hp).1,(kcd hp).2.1⟩
theorem kbc {k:Nat} {x:LiT} (e:x∈kdL T w h k):x∈T∧x.2.1.1=(k:Int)+1:=by
 obtain⟨c,_,hc⟩:=List.mem_flatMap.1 e
 have:=ka7 hc
 exact⟨this.1,by rw[this.2]⟩
theorem jp7 (t:Tab w h T) {x:LiT}:x∈jlv T w h↔x∈T:=by
 rw[jyh]
 constructor
 ·intro e
  obtain⟨k,_,hk⟩:=List.mem_flatMap.1 e
  exact(kbc hk).1
 ·intro hx
  have li:=t.li hx
  have a1:=li.k1;have a2:=li.k4;have a3:=li.c0;have a4:=li.c1;have a5:=li.f0;have a6:=li.ft;have a7:=li.t1
  refine List.mem_flatMap.2 ⟨(x.2.1.1-1).toNat,List.mem_range.2 (by omega),List.mem_flatMap.2 ⟨(x.2.1.2+w).toNat,List.mem_range.2 (by omega),List.mem_filterMap.2 ⟨x.2.2.1.toNat,List.mem_range.2 (by omega),?_⟩⟩⟩
  unfold atL
  have e1:(((x.2.1.1-1).toNat:Nat):Int)+1=x.2.1.1:=by omega
  have e2:(((x.2.1.2+w).toNat:Nat):Int)-(w:Int)=x.2.1.2:=by omega
  have e3:((x.2.2.1.toNat:Nat):Int)=x.2.2.1:=by omega
  rw[e1,e2,e3]
  exact ka9 t.key hx
def NxP (p q:(Int×Int)×(Int×Int)):Prop:=p.1.1<q.1.1∨p.1.1=q.1.1∧(p.1.2<q.1.2∨p.1.2=q.1.2∧p.2.2≤q.2.1)
theorem kcn {α:Type} {r:α→α→Bool} {P:α→Prop} (tr:∀x y z,P y→r x y=true→r y z=true→r x z=true):∀ {l:List α},(∀x∈l,P x)→adj r l=true→l.Pairwise fun x y=>r x y=true
 | [],_,_=>List.Pairwise.nil
 | x::l,hP,h=>by
   simp only[adj,Bool.and_eq_true] at h
   have ih:=kcn tr (fun y hy=>hP y (List.mem_cons_of_mem _ hy)) h.2
   refine List.pairwise_cons.2 ⟨fun y hy=>?_,ih⟩
   cases l with
   | nil=>cases hy
   | cons z l=>
     rcases List.mem_cons.1 hy with e | hy
     ·rw[e];exact h.1
     ·exact tr _ _ _ (hP z (List.mem_cons_of_mem _ List.mem_cons_self)) h.1 ((List.pairwise_cons.1 ih).1 y hy)
theorem j9i (t:Tab w h T):(jlv T w h).Pairwise fun x y=>NxP x.2 y.2:=by
 refine(kcn (P:=fun x=>x.2.2.1<x.2.2.2) (fun x y z hy h1 h2=>?_) (fun x hx=>(t.li ((jp7 t).1 hx)).ft) t.wk).imp fun h=>ka0.1 h
 rw[ka0] at *
 unfold Nx at *
 omega
theorem j7v (t:Tab w h T):(jlv T w h).Nodup:=by
 have hp:=j9i t
 have:(jlv T w h).Pairwise fun x y=>x∈jlv T w h∧NxP x.2 y.2:=by
  rw[List.pairwise_iff_getElem] at hp ⊢
  exact fun i j hi hj hij=>⟨List.getElem_mem _,hp i j hi hj hij⟩
 refine this.imp fun {a b} ⟨hm,h⟩ e=>?_
 subst e
 have:=(t.li ((jp7 t).1 hm)).ft
 unfold NxP at h
 omega
theorem jt9 (t:Tab w h T):(jlv T w h).Perm T:=by
 have n2:T.Nodup:=List.Pairwise.of_map _ (fun a b h e=>h (by rw[e])) t.ndU
 exact(List.perm_ext_iff_of_nodup (j7v t) n2).2 fun c=>jp7 t
end
def goes (c e:SgT):Prop:=c.1=e.1∧c.2.1=e.2.1∧c.2.2.2=e.2.2.1
instance (c e:SgT):Decidable (goes c e):=by unfold goes;exact inferInstance
def stepG (s:List SgT×Option SgT) (e:SgT):List SgT×Option SgT:=
 match s.2 with
 | none=>(s.1,if e.1≠0 then some e else none)
 | some c=>if e.1≠0∧goes c e then(s.1,some (c.1,(c.2.1,(c.2.2.1,e.2.2.2)))) else(s.1++[c],if e.1≠0 then some e else none)
def jjw:List SgT×Option SgT→List SgT→List SgT
 | s,[]=>s.1++s.2.toList
 | s,e::l=>jjw (stepG s e) l
theorem juq {out:List SgT} {c:SgT}:∀ {l:List SgT},(∀e,l.head?=some e→¬goes c e)→jjw (out,some c) l=jjw (out++[c],none) l
 | [],_=>by simp[jjw]
 | e::l,h=>by
   have:=h e rfl
   simp only[jjw,stepG,this,and_false,if_false]
theorem jnp:∀(l:List SgT) (out:List SgT) (cur:Option SgT),(∀e∈l,e.2.2.1<e.2.2.2)→l.Pairwise (fun x y=>NxP x.2 y.2)→(∀c,cur=some c→∀e∈l,NxP c.2 e.2)→
  jjw (out,cur) l=jjw (out,cur) (l.filter fun e=>decide (e.1≠0))
 | [],_,_,_,_,_=>rfl
 | e::l,out,cur,hf,hp,hc=>by
   obtain⟨hp1,hp2⟩:=List.pairwise_cons.1 hp
   have hf2:∀e∈l,e.2.2.1<e.2.2.2:=fun x hx=>hf x (List.mem_cons_of_mem _ hx)
   have fe:=hf e List.mem_cons_self
   by_cases h0:e.1=0
   ·rw[List.filter_cons_of_neg (by simp[h0])]
    cases cur with
    | none=>
      have es:stepG (out,none) e=(out,none):=by simp[stepG,h0]
      rw[jjw,es]
      exact jnp l out none hf2 hp2 (fun c h=>by cases h)
    | some c=>
      have es:stepG (out,some c) e=(out++[c],none):=by simp[stepG,h0]
      rw[jjw,es,jnp l _ none hf2 hp2 (fun c h=>by cases h)]
      refine(juq fun v hv=>?_).symm
      have hm:=List.mem_of_mem_head? (by rw[hv];rfl:v∈(l.filter fun e=>decide (e.1≠0)).head?)
      have hm:=(List.mem_filter.1 hm).1
      rintro ⟨g1,g2,g3⟩
      have n1:=hc c rfl e List.mem_cons_self
      have n2:=hp1 v hm
      have e1:c.2.1.1=v.2.1.1:=by rw[g2]
      have e2:c.2.1.2=v.2.1.2:=by rw[g2]
      unfold NxP at n1 n2
      omega
   ·rw[List.filter_cons_of_pos (by simp[h0])]
    simp only[jjw]
    rcases hs:stepG (out,cur) e with⟨o2,c2⟩
    refine jnp l o2 c2 hf2 hp2 fun d hd v hv=>?_
    have n2:=hp1 v hv
    have:d.2.1=e.2.1∧d.2.2.2=e.2.2.2:=by
     unfold stepG at hs
     cases cur with
     | none=>
       simp only[ne_eq,h0,not_false_eq_true,if_true,Prod.mk.injEq] at hs
       rw[hd] at hs
       cases hs.2
       exact⟨rfl,rfl⟩
     | some c=>
       simp only[ne_eq,h0,not_false_eq_true,if_true,true_and] at hs
       split at hs
       ·rename_i g
        simp only[Prod.mk.injEq] at hs
        rw[hd] at hs
        cases hs.2
        exact⟨g.2.1,rfl⟩
       ·simp only[Prod.mk.injEq] at hs
        rw[hd] at hs
        cases hs.2
        exact⟨rfl,rfl⟩
    have e1:d.2.1.1=e.2.1.1:=by rw[this.1]
    have e2:d.2.1.2=e.2.1.2:=by rw[this.1]
    unfold NxP at n2 ⊢
    omega
def kW (K:UnT→Int) (l:List LiT):List SgT:=l.map fun x=>(K x.1,x.2)
def j3s (T:List LiT) (w h:Nat) (K:UnT→Int):List SgT:=jjw ([],none) (kW K (jlv T w h))
end X
end Go.Vm
namespace Go.Vm
namespace X
open W Go.RowKit
theorem j78 {a:kcx} (ha:a.2.2.length≤1000000) (u:UnT):jkg fuel (a,u)=some (jau a.2.2 u):=by
 apply Ret.eq
 unfold jkg
 refine ja7 (fun i:Int=>0≤i∧i≤a.2.2.length∧∀c∈a.2.2.take i.toNat,isU u c=false) (fun i=>a.2.2.length-i.toNat) ?_ fuel 0 ⟨by omega,by omega,by simp⟩ (by simp only[fuel];omega)
 rintro i' rec ⟨i0,i1,hno⟩ hrec
 obtain⟨i,rfl⟩:∃i:Nat,i'=(i:Int):=⟨i'.toNat,by omega⟩
 rw[Int.toNat_natCast] at hno
 refine jaf (fun hlt=>?_) fun hge=>?_
 ·have hlt:(i:Int)< (a.2.2.length:Int):=hlt
  have hi:i<a.2.2.length:=by omega
  have hin:=jeg i0 hlt
  rw[jdv hi]
  have nx:isU u a.2.2[i]=false→Ret (chk (jal ((i:Int)+1)) (rec ((i:Int)+1))) fun x=>x=jau a.2.2 u:=fun hu=>by
   refine jac (jan (by omega) (by omega)) (hrec _ ⟨by omega,by omega,?_⟩ (by omega))
   rw[show((i:Int)+1).toNat=i+1 by omega,jkx _ _ hi]
   intro c hc
   rcases List.mem_append.1 hc with hc | hc
   ·exact hno c hc
   ·rw[List.mem_singleton.1 hc];exact hu
  refine jac hin (jaf (fun g1=>jac hin (jaf (fun g2=>jac hin (jas ?_)) fun g2=>nx (by simp only[isU];simp[g2]))) fun g1=>nx (by simp only[isU];simp[g1]))
  unfold jau
  rw[jxy hi hno (by simp only[isU];simp[g1,g2])]
 ·refine jas ?_
  have hge:¬(i:Int)< (a.2.2.length:Int):=hge
  rw[List.take_of_length_le (by omega)] at hno
  unfold jau
  rw[List.find?_eq_none.2 fun c hc hq=>by rw[hno c hc] at hq;cases hq]
def enc:Option SgT→Int×(Int×(Int×(Int×Int)))
 | none=>(0,(0,(0,(0,0))))
 | some c=>(c.1,(c.2.1.1,(c.2.1.2,(c.2.2.1,c.2.2.2))))
theorem jqc {out:List SgT} {c e:SgT} (h0:e.1≠0) (hg:goes c e):stepG (out,some c) e=(out,some (c.1,(c.2.1,(c.2.2.1,e.2.2.2)))):=by simp only[stepG];rw[if_pos ⟨h0,hg⟩]
theorem jtr {out:List SgT} {c e:SgT} (h0:e.1≠0) (hg:¬goes c e):stepG (out,some c) e=(out++[c],some e):=by simp only[stepG];rw[if_neg fun h=>hg h.2,if_pos h0]
theorem j36 {out:List SgT} {c e:SgT} (h0:e.1=0):stepG (out,some c) e=(out++[c],none):=by simp only[stepG];rw[if_neg fun h=>h.1 h0,if_neg fun h=>h h0]
theorem jrh {out:List SgT} {e:SgT} (h0:e.1≠0):stepG (out,none) e=(out,some e):=by simp only[stepG];rw[if_pos h0]
theorem j37 {out:List SgT} {e:SgT} (h0:e.1=0):stepG (out,none) e=(out,none):=by simp only[stepG];rw[if_neg fun h=>h h0]
theorem jrq {n i:Nat} (h:i<n):(List.range n).drop i=i::(List.range n).drop (i+1):=by
 rw[jgm (by simpa using h),List.getElem_range]
section
variable {w h:Nat} {T:List LiT}
theorem kdw (t:Tab w h T) (hw:1≤w∧w≤6) (hh:1≤h∧h≤6) {cr:List jc1} (hcr:cr.length≤1000000):
  jqg fuel ((w:Int),((h:Int),cr))=some (j3s T w h (jau cr)):=by
 have hlen:=t.len hw.2 hh.2
 have hwl:(jlv T w h).length≤1000:=by rw[(jt9 t).length_eq];exact hlen
 apply Ret.eq
 unfold jqg
 rw[t.all,Option.bind_some]
 have hX0:jjw ([],none) (kW (jau cr) (((List.range 4).drop 0).flatMap (kdL T w h)))=j3s T w h (jau cr):=by
  rw[List.drop_zero,←jyh];rfl
 have hL0:(((List.range 4).drop 0).flatMap (kdL T w h)).length≤1000:=by
  rw[List.drop_zero,←jyh];exact hwl
 generalize j3s T w h (jau cr)=X at hX0 ⊢
 generalize hK:jau cr=K at hX0
 refine ja7 (fun s:List SgT×Int=>∃i:Nat,s.2=(i:Int)+1∧i≤4∧jjw (s.1,none) (kW K (((List.range 4).drop i).flatMap (kdL T w h)))=X∧s.1.length+ (((List.range 4).drop i).flatMap (kdL T w h)).length≤1000) (fun s=>5-s.2.toNat) ?_ fuel ([],1) ⟨0,rfl,by omega,hX0,by simpa using hL0⟩ (by simp only[fuel];omega)
 clear hX0 hL0
 rintro ⟨out,k'⟩ rec ⟨i,hk,hi4,hX,hL⟩ hrec
 simp only at hk hX hL
 subst hk
 refine jaf (fun hk4=>?_) fun hk4=>?_
 rotate_left
 ·have:i=4:=by simp only at hk4;omega
  subst this
  refine jas ?_
  rw[←hX,show(List.range 4).drop 4=[] from rfl]
  simp[jjw,kW]
 have hi:i<4:=by simp only at hk4;omega
 rw[jrq hi,List.flatMap_cons] at hX hL
 generalize hRk:((List.range 4).drop (i+1)).flatMap (kdL T w h)=Rk at hX hL
 have hRkl:∀e∈Rk,e.2.1.1≠(i:Int)+1:=by
  intro e he
  rw[←hRk] at he
  obtain⟨k,hk,he⟩:=List.mem_flatMap.1 he
  have:=(kbc he).2
  obtain⟨q,hq,e2⟩:=List.getElem_of_mem hk
  rw[List.getElem_drop,List.getElem_range] at e2
  omega
 refine jac (jan (by omega) (by omega)) ?_
 refine ja7 (fun s:List SgT×Int=>∃j:Nat,s.2=(j:Int)-(w:Int)∧j≤w+ (w+h)+1∧jjw (s.1,none) (kW K (((List.range (w+ (w+h)+1)).drop j).flatMap (lnL T w h i)++Rk))=X∧s.1.length+ (((List.range (w+ (w+h)+1)).drop j).flatMap (lnL T w h i)++Rk).length≤1000) (fun s=>w+ (w+h)+1-(s.2+w).toNat) ?_ fuel (out, -(w:Int)) ⟨0,by simp,by omega,by rw[List.drop_zero];exact hX,by rw[List.drop_zero];exact hL⟩ (by simp only[fuel];omega)
 clear hX hL
 rintro ⟨out,c'⟩ rec3 ⟨j,hc,hjm,hX,hL⟩ hrec3
 simp only at hc hX hL
 subst hc
 have hz1:jal ((w:Int)+ (h:Int))=true:=jan (by omega) (by omega)
 have hz2:jal (2* ((w:Int)+ (h:Int)))=true:=jan (by omega) (by omega)
 refine jac hz1 (jaf (fun hjc=>?_) fun hjc=>?_)
 rotate_left
 ·have:j=w+ (w+h)+1:=by simp only at hjc;omega
  subst this
  have ed:(List.range (w+ (w+h)+1)).drop (w+ (w+h)+1)=[]:=List.drop_of_length_le (by simp)
  rw[ed,List.flatMap_nil,List.nil_append] at hX hL
  have e1:IntKind.u8.wrap ((i:Int)+1+1)=((i+1:Nat):Int)+1:=by
   have:i=0∨i=1∨i=2∨i=3:=by omega
   rcases this with rfl | rfl | rfl | rfl<;>rfl
  simp only
  rw[e1]
  exact hrec _ ⟨i+1,rfl,by omega,by rw[hRk];exact hX,by rw[hRk];exact hL⟩ (by simp only;omega)
 have hj:j<w+ (w+h)+1:=by simp only at hjc;omega
 rw[jrq hj,List.flatMap_cons,List.append_assoc] at hX hL
 generalize hRc:((List.range (w+ (w+h)+1)).drop (j+1)).flatMap (lnL T w h i)++Rk=Rc at hX hL
 have hRcl:∀e∈Rc,e.2.1≠((i:Int)+1,(j:Int)-(w:Int)):=by
  intro e he e0
  rw[←hRc] at he
  rcases List.mem_append.1 he with he | he
  ·obtain⟨k,hk,he⟩:=List.mem_flatMap.1 he
   have:=(ka7 he).2
   obtain⟨q,hq,e2⟩:=List.getElem_of_mem hk
   rw[List.getElem_drop,List.getElem_range] at e2
   rw[e0] at this
   have:=congrArg Prod.snd this
   simp only at this
   omega
  ·exact hRkl e he (by rw[e0])
 have hl:lnL T w h i j=(List.range (2* (w+h)+1)).filterMap (atL T ((i:Int)+1,(j:Int)-(w:Int))):=rfl
 rw[hl] at hX hL
 generalize hN:2* (w+h)+1=N at hX hL
 generalize hline:((i:Int)+1,(j:Int)-(w:Int))=l at hX hL hRcl
 refine ja7 (fun s:List SgT×(Int×(Int×(Int×(Int×(Int×Int)))))=>∃(p:Nat) (cur:Option SgT),s.2.1=(p:Int)∧p≤N∧s.2.2=enc cur∧(∀c,cur=some c→c.1≠0∧c.2.1=l)∧jjw (s.1,cur) (kW K (((List.range N).drop p).filterMap (atL T l)++Rc))=X∧s.1.length+cur.toList.length+ (((List.range N).drop p).filterMap (atL T l)++Rc).length≤1000) (fun s=>N-s.2.1.toNat) ?_ fuel _ ⟨0,none,rfl,by omega,rfl,(fun c h=>by cases h),by rw[List.drop_zero];exact hX,by rw[List.drop_zero];simpa using hL⟩ (by simp only[fuel];omega)
 clear hX hL
 rintro ⟨out,p',x⟩ rec4 ⟨p,cur,hp,hpN,hx,hcur,hX,hL⟩ hrec4
 simp only at hp hx hX hL
 subst hp hx
 refine jac hz1 (jac hz2 (jaf (fun hat=>?_) fun hat=>?_))
 rotate_left
 ·have:p=N:=by simp only at hat;omega
  subst this
  have ed:(List.range p).drop p=[]:=List.drop_of_length_le (by simp)
  rw[ed,List.filterMap_nil,List.nil_append] at hX hL
  have nx:∀out2:List SgT,jjw (out2,none) (kW K Rc)=X→out2.length+Rc.length≤1000→Ret (chk (jal ((j:Int)-(w:Int)+1)) (rec3 (out2,(j:Int)-(w:Int)+1))) fun x=>x=X:=fun out2 h1 h2=>by
   refine jac (jan (by omega) (by omega)) (hrec3 _ ⟨j+1,by simp only;omega,by omega,?_,?_⟩ (by simp only;omega))
   ·rw[hRc];exact h1
   ·rw[hRc];exact h2
  cases cur with
  | none=>exact jaf (fun g=>absurd rfl g) fun _=>nx _ hX (by simpa using hL)
  | some c=>
    have hc:=hcur c rfl
    have hfl:jjw (out++[c],none) (kW K Rc)=X:=by
     rw[←hX]
     refine(juq fun e he hg=>?_).symm
     have hm:=List.mem_of_mem_head? (by rw[he];rfl:e∈(kW K Rc).head?)
     obtain⟨y,hy,rfl⟩:=List.mem_map.1 hm
     exact hRcl y hy (by rw[←hc.2];exact hg.2.1.symm)
    refine jaf (fun _=>jac (jg9 ?_) (nx _ hfl ?_)) fun g=>absurd hc.1 g
    ·simp only[Option.toList_some,List.length_singleton] at hL;simp only;omega
    ·simp only[Option.toList_some,List.length_singleton,List.length_append] at hL ⊢;omega
 have hp:p<N:=by simp only at hat;omega
 rw[jrq hp,List.filterMap_cons] at hX hL
 generalize hR:((List.range N).drop (p+1)).filterMap (atL T l)=R at hX hL
 rw[koz (by omega),Option.bind_some]
 have next:∀(out2:List SgT) (cur2:Option SgT),(∀c,cur2=some c→c.1≠0∧c.2.1=l)→jjw (out2,cur2) (kW K (R++Rc))=X→out2.length+cur2.toList.length+ (R++Rc).length≤1000→
   Ret (chk (jal ((p:Int)+1)) (rec4 (out2,((p:Int)+1,enc cur2)))) fun x=>x=X:=fun out2 cur2 h1 h2 h3=>
  jac (jan (by omega) (by omega)) (hrec4 _ ⟨p+1,cur2,by simp,by omega,rfl,h1,by rw[hR];exact h2,by rw[hR];exact h3⟩ (by simp only;omega))
 have ea:atL T l p=lkT T l (p:Int):=rfl
 rw[ea] at hX hL
 cases hlk:lkT T l (p:Int) with
 | none=>
   rw[hlk] at hX hL
   simp only at hX hL ⊢
   exact jaf (fun _=>next out cur hcur hX hL) fun g=>absurd trivial g
 | some y=>
   obtain⟨hy,hyl,hyp⟩:=jff hlk
   rw[hlk] at hX hL
   simp only[List.cons_append,List.length_cons] at hX hL ⊢
   refine jaf (fun g=>absurd g (by decide)) fun _=>?_
   rw[show((y.1.1,y.1.2):UnT)=y.1 from rfl,j78 (a:=((w:Int),((h:Int),cr))) hcr,Option.bind_some,hK]
   have hX2:jjw (stepG (out,cur) (K y.1,y.2)) (kW K (R++Rc))=X:=hX
   have hnew:∀c:SgT,some ((K y.1,(l,((p:Int),y.2.2.2))):SgT)=some c→K y.1≠0→c.1≠0∧c.2.1=l:=fun c e h0=>by cases e;exact⟨h0,rfl⟩
   have ey:((K y.1,y.2):SgT)=(K y.1,(l,((p:Int),y.2.2.2))):=by rw[←hyl,←hyp]
   rw[ey] at hX2
   subst hline
   cases cur with
   | none=>
     simp only[Option.toList_none,List.length_nil] at hL
     refine jaf (fun hn=>?_) fun hn=>?_
     ·rw[jrh hn] at hX2
      refine jaf (fun g=>absurd g.symm hn) fun _=>jaf (fun g=>absurd rfl g) fun _=>jaf (fun _=>?_) fun g=>absurd hn g
      exact next out (some _) (fun c e=>hnew c e hn) hX2 (by simp only[Option.toList_some,List.length_singleton];omega)
     ·have hn:K y.1=0:=by simpa using hn
      rw[j37 hn] at hX2
      refine jaf (fun g=>absurd rfl g) fun _=>jaf (fun g=>absurd hn g) fun _=>?_
      exact next out none (fun c e=>by cases e) hX2 (by simp only[Option.toList_none,List.length_nil];omega)
   | some c=>
     obtain⟨hc1,hc2⟩:=hcur c rfl
     simp only[Option.toList_some,List.length_singleton] at hL
     have hlk1:jeo (out.length+1)=true:=jg9 (by omega)
     have hl1:(out++[c]).length=out.length+1:=by simp
     have flush1:K y.1≠0→¬goes c (K y.1,(((i:Int)+1,(j:Int)-(w:Int)),((p:Int),y.2.2.2)))→Ret (chk (jal ((p:Int)+1)) (rec4 (out++[c],((p:Int)+1,enc (some (K y.1,(((i:Int)+1,(j:Int)-(w:Int)),((p:Int),y.2.2.2)))))))) fun x=>x=X:=fun hn hg=>by
      rw[jtr hn hg] at hX2
      exact next _ (some _) (fun c e=>hnew c e hn) hX2 (by simp only[Option.toList_some,List.length_singleton];omega)
     refine jaf (fun hn=>?_) fun hn=>?_
     ·refine jaf (fun g1=>?_) fun g1=>?_
      ·refine jaf (fun g2=>?_) fun g2=>?_
       ·rw[jqc hn ⟨g1,hc2,g2⟩] at hX2
        exact next out (some _) (fun d e=>by cases e;exact⟨hc1,hc2⟩) hX2 (by simp only[Option.toList_some,List.length_singleton];omega)
       ·refine jaf (fun _=>jac hlk1 (jaf (fun _=>?_) fun g=>absurd hn g)) fun g=>absurd hc1 g
        exact flush1 hn fun g=>g2 g.2.2
      ·refine jaf (fun _=>jac hlk1 (jaf (fun _=>?_) fun g=>absurd hn g)) fun g=>absurd hc1 g
       exact flush1 hn fun g=>g1 g.1
     ·have hn:K y.1=0:=by simpa using hn
      refine jaf (fun _=>jac hlk1 (jaf (fun g=>absurd hn g) fun _=>?_)) fun g=>absurd hc1 g
      rw[j36 hn] at hX2
      exact next (out++[c]) none (fun c e=>by cases e) hX2 (by simp only[Option.toList_none,List.length_nil];omega)
end
end X
end Go.Vm
namespace Go.Vm
namespace X
open W Go.RowKit
section
variable {w h:Nat} {T:List LiT}
theorem khw (t:Tab w h T) {x:LiT} (hx:x∈T):jew fuel (((w:Int),(h:Int)),x.1)=some ((x.2.1,x.2.2.1),x.2.2.2):=by
 have:=List.all_eq_true.1 t.lie x hx
 unfold khx at this
 split at this
 ·rename_i r hr
  rw[show((x.1.1,x.1.2):UnT)=x.1 from rfl] at hr
  rw[hr]
  simp only[Bool.and_eq_true,decide_eq_true_eq] at this
  obtain⟨⟨⟨a1,a2⟩,a3⟩,a4⟩:=this
  rw[show r=((r.1.1,r.1.2),r.2) from rfl,show r.1.1=x.2.1 from Prod.ext a1 a2,a3,a4]
 ·cases this
def j87 (T:List LiT) (c:jc1):SgT:=(c.2.2,((T.find? fun x=>decide (x.1=jbk c)).map (·.2)).getD ((0,0),(0,0)))
theorem j97 (t:Tab w h T) {c:jc1} {x:LiT} (hx:x∈T) (e:x.1=jbk c):j87 T c=(c.2.2,x.2):=by
 unfold j87
 have:T.find? (fun x=>decide (x.1=jbk c))=some x:=by
  cases hf:T.find? (fun x=>decide (x.1=jbk c)) with
  | none=>exact absurd (by simpa using e) (List.find?_eq_none.1 hf x hx)
  | some y=>
    have h1:=List.mem_of_find?_eq_some hf
    have h2:=List.find?_some hf
    rw[t.unitInj h1 hx (by rw[e];simpa using h2)]
 rw[this]
 rfl
def j3t (T:List LiT) (w h:Nat) (K:UnT→Int):List SgT:=(kW K (jlv T w h)).filter fun e=>decide (e.1≠0)
theorem kl4 (t:Tab w h T) (K:UnT→Int):(kW K (jlv T w h)).Pairwise fun x y=>NxP x.2 y.2:=List.pairwise_map.2 (j9i t)
theorem kbd (t:Tab w h T) {K:UnT→Int} {e:SgT} (he:e∈kW K (jlv T w h)):∃x∈T,e=(K x.1,x.2):=by
 obtain⟨x,hx,rfl⟩:=List.mem_map.1 he
 exact⟨x,(jp7 t).1 hx,rfl⟩
theorem j96 (t:Tab w h T) (K:UnT→Int):j3s T w h K=jjw ([],none) (j3t T w h K):=
 jnp _ _ _ (fun e he=>by obtain⟨x,hx,rfl⟩:=kbd t he;exact(t.li hx).ft) (kl4 t K) (fun c h=>by cases h)
theorem jun (t:Tab w h T) (K:UnT→Int):(j3t T w h K).Pairwise fun a b=>cfG a b<0:=by
 have hp:(j3t T w h K).Pairwise fun x y=>NxP x.2 y.2:=(kl4 t K).filter _
 have:(j3t T w h K).Pairwise fun x y=>(x∈j3t T w h K∧y∈j3t T w h K)∧NxP x.2 y.2:=by
  rw[List.pairwise_iff_getElem] at hp ⊢
  exact fun i j hi hj hij=>⟨⟨List.getElem_mem _,List.getElem_mem _⟩,hp i j hi hj hij⟩
 refine this.imp fun {a b} ⟨⟨ha,hb⟩,hn⟩=>?_
 obtain⟨x,hx,rfl⟩:=kbd t (List.mem_filter.1 ha).1
 obtain⟨y,hy,rfl⟩:=kbd t (List.mem_filter.1 hb).1
 have lx:=t.li hx
 have ly:=t.li hy
 have b1:=lx.ft
 rw[j2s]
 simp only
 rw[w64 (by have:=lx.k1;omega) (by have:=lx.k4;omega),w64 (by have:=ly.k1;omega) (by have:=ly.k4;omega)]
 unfold NxP at hn
 simp only at hn
 omega
theorem jj6 {α β:Type} {f g:α→Option β}:∀ {l:List α},(∀x∈l,f x=g x)→l.filterMap f=l.filterMap g
 | [],_=>rfl
 | x::l,h=>by
   rw[List.filterMap_cons,List.filterMap_cons,h x List.mem_cons_self,jj6 fun y hy=>h y (List.mem_cons_of_mem _ hy)]
theorem juo (t:Tab w h T) {cr:List jc1} (ho:OutOK T cr):(cr.map (j87 T)).Perm (j3t T w h (jau cr)):=by
 have h1:((jzv T cr).map (j87 T)).Perm (j3t T w h (jau cr)):=by
  have e:(jzv T cr).map (j87 T)=(kW (jau cr) T).filter fun e=>decide (e.1≠0):=by
   unfold jzv kW
   rw[List.map_filterMap,List.filter_map,←List.filterMap_eq_map,←List.filterMap_eq_filter,List.filterMap_filterMap]
   refine jj6 fun x hx=>?_
   by_cases h0:jau cr x.1=0
   ·simp[h0,Option.guard]
   ·simp only[h0,if_false,Option.map_some,Option.guard,Function.comp_apply,ne_eq,not_false_eq_true,decide_true,if_true,Option.bind_some]
    rw[j97 t hx rfl]
    try rfl
  rw[e]
  exact((jt9 t).symm.map _).filter _
 exact((jvu t ho).map _).trans h1
theorem j58 (t:Tab w h T) {cr:List jc1} (ho:OutOK T cr):sortC cfG (cr.map (j87 T))=j3t T w h (jau cr):=by
 have hs:=jun t (jau cr)
 have hp:=(jea cfG (cr.map (j87 T))).trans (juo t ho)
 refine jkf cfG (fun x hx y hy h1 h2=>?_) (jjt cfG kq6 _) (hs.imp fun {a b} h c=>by rw[j2s] at *;omega) hp
 have hx:=hp.subset hx
 have hy:=hp.subset hy
 obtain⟨i,hi,rfl⟩:=List.getElem_of_mem hx
 obtain⟨j,hj,rfl⟩:=List.getElem_of_mem hy
 rw[List.pairwise_iff_getElem] at hs
 rcases Nat.lt_trichotomy i j with g | g | g
 ·exact absurd (hs i j hi hj g) h1
 ·subst g;rfl
 ·exact absurd (hs j i hj hi g) h2
theorem kkx (t:Tab w h T) {cr:List jc1} (ho:OutOK T cr):okG (cr.map (j87 T))=true:=by
 unfold okG
 rw[j58 t ho]
 exact j4j (jun t _)
theorem kha {K:UnT→Int} {e:SgT} (he:e∈j3t T w h K):e.1≠0:=by
 have:=(List.mem_filter.1 he).2
 simpa using this
theorem jgl {α:Type} (l:List α) (n:Nat):(l.drop n).take (l.length-n)=l.drop n:=List.take_of_length_le (by simp)
theorem kr7 (t:Tab w h T) (hw:1≤w∧w≤6) (hh:1≤h∧h≤6) {cr:List jc1} (hck:jb3 fuel ((w:Int),((h:Int),cr))=some 0) (ho:OutOK T cr):
  jbo fuel ((w:Int),((h:Int),cr))=some (j3s T w h (jau cr),0):=by
 have hlen:=ho.len t hw.2 hh.2
 apply Ret.eq
 unfold jbo
 rw[show(((w:Int),((h:Int),cr)).1,(((w:Int),((h:Int),cr)).2.1,((w:Int),((h:Int),cr)).2.2))=((w:Int),((h:Int),cr)) from rfl,hck,Option.bind_some]
 refine jaf (fun g=>absurd rfl g) fun _=>?_
 refine jac (by simp only[Bool.and_eq_true,decide_eq_true_eq];omega) ?_
 refine ja7 (fun s:List SgT×Int=>∃n:Nat,s.2=(n:Int)∧n≤cr.length∧s.1=(cr.take n).map (j87 T)) (fun s=>cr.length-s.2.toNat) ?_ fuel ([],0) ⟨0,rfl,by omega,by simp⟩ (by simp only[fuel];omega)
 rintro ⟨all,n'⟩ rec ⟨n,hn,hnl,hall⟩ hrec
 simp only at hn hall
 subst hn hall
 refine jaf (fun hlt=>?_) fun hge=>?_
 ·have hlt:(n:Int)< (cr.length:Int):=hlt
  have hi:n<cr.length:=by omega
  have hin:inb (n:Int) cr.length=true:=jeg (by omega) hlt
  refine jac hin ?_
  simp only
  rw[jdv hi]
  obtain⟨x,hx,ex⟩:=List.mem_map.1 (ho.sub cr[n] (List.getElem_mem hi))
  rw[show((cr[n].1,cr[n].2.1):UnT)=x.1 from ex.symm,khw t hx,Option.bind_some]
  refine jac (jg9 (by simp only[List.length_map,List.length_take];omega)) (jac (jan (by omega) (by omega)) (hrec _ ⟨n+1,by simp,hi,?_⟩ (by simp only;omega)))
  simp only
  rw[jkx _ _ hi,List.map_append,List.map_singleton,j97 t hx ex]
 have hge:¬(n:Int)< (cr.length:Int):=hge
 have:n=cr.length:=by omega
 subst this
 have eS:jay fuel (((cr.take cr.length).map (j87 T),none),((),()))=some ((),((j3t T w h (jau cr),none),((),()))):=by
  unfold jay
  have e1:(Nat.ble (List.length (α:=SgT) ((cr.take cr.length).map (j87 T))) 1000000&&okG ((cr.take cr.length).map (j87 T)))=true:=by
   rw[List.take_length,kkx t ho,Bool.and_true,Nat.ble_eq,List.length_map]
   omega
  have e2:=e1
  simp only at e1 ⊢
  rw[e1,List.take_length,j58 t ho]
  rfl
 rw[eS,Option.bind_some]
 have hX0:=j96 t (jau cr)
 have hL0:(j3t T w h (jau cr)).length≤1000:=by rw[←(juo t ho).length_eq,List.length_map];exact hlen
 have hN0:∀e∈j3t T w h (jau cr),e.1≠0:=fun e he=>kha he
 simp only
 generalize j3s T w h (jau cr)=X at hX0 ⊢
 generalize j3t T w h (jau cr)=F at hX0 hL0 hN0 ⊢
 refine ja7 (fun s:List SgT×List SgT=>(∀e∈s.1,e.1≠0)∧jjw (s.2,none) s.1=X∧s.2.length+s.1.length≤1000) (fun s=>s.1.length) ?_ fuel (F,[]) ⟨hN0,hX0.symm,by simpa using hL0⟩ (by simp only[fuel];omega)
 clear hX0 hL0 hN0 eS hrec rec
 rintro ⟨all,out⟩ rec5 ⟨hN,hX,hL⟩ hrec5
 simp only at hN hX hL
 cases all with
 | nil=>
   refine jaf (fun g=>absurd g (by simp)) fun _=>?_
   simp only[jjw,Option.toList_none,List.append_nil] at hX
   subst hX
   have hb:bnb 0 (out.length:Int) out.length=true:=by unfold bnb;simp
   refine jac (by simp only[Bool.and_eq_true,decide_eq_true_eq];exact⟨⟨hb,by omega⟩,by omega⟩) (jac ?_ (jas ?_))
   ·simp[jl0]
   ·simp
 | cons x r=>
   have hb:∀n:Nat,n+1≤(x::r).length→bnb ((n:Int)+1) ((x::r).length:Int) (x::r).length=true:=fun n hn=>by
    unfold bnb
    simp only[Bool.and_eq_true,decide_eq_true_eq]
    omega
   refine jaf (fun _=>?_) fun g=>absurd (by simp only[List.length_cons];omega) g
   refine jac (jeg (by omega) (by simp only[List.length_cons];omega)) (jac (hb 0 (by simp)) ?_)
   generalize hA:x::r=A at hb hrec5 hN hX hL
   have hAl:1≤A.length:=by rw[←hA];simp
   refine ja7 (fun s:Int×(Int×(Int×(Int×(Int×(Int×Int)))))=>∃(n:Nat) (y:SgT),s=((n:Int)+1,((n:Int),enc (some y)))∧n+1≤A.length∧y.1≠0∧jjw (out,some y) (A.drop (n+1))=X) (fun s=>A.length-s.1.toNat) ?_ fuel _ ⟨0,x,by rw[←hA];rfl,hAl,hN x (by rw[←hA];simp),?_⟩ (by simp only[fuel];omega)
   rotate_left
   ·rw[←hA] at hX ⊢
    rw[←hX]
    have:=hN x (by rw[←hA];simp)
    rw[jjw,jrh this]
    rfl
   rintro s rec6 ⟨n,y,rfl,hn,hy,hXn⟩ hrec6
   have ex:jjw (out++[y],none) (A.drop (n+1))=X→Ret (chk (jeo (out.length+1)) (chk (bnb ((n:Int)+1) (A.length:Int) A.length) (rec5 (((A.drop ((n:Int)+1).toNat).take (A.length-((n:Int)+1).toNat)),(out++[y]))))) fun x=>x=(X,0):=fun hx=>by
    refine jac (jg9 (by omega)) (jac (hb n hn) (hrec5 _ ⟨?_,?_,?_⟩ ?_))
    ·intro e he
     simp only[jgl] at he
     exact hN e (List.mem_of_mem_drop he)
    ·simp only[jgl]
     rw[show((n:Int)+1).toNat=n+1 by omega]
     exact hx
    ·simp only[jgl,List.length_append,List.length_singleton,List.length_drop]
     omega
    ·simp only[jgl,List.length_drop]
     omega
   have hd1:(A.drop 1).take (A.length-1)=A.drop 1:=jgl A 1
   have hdl:((A.drop 1).take (A.length-1)).length=A.length-1:=by rw[hd1,List.length_drop]
   refine jaf (fun hlt=>?_) fun hge=>?_
   ·have hlt:(n:Int)< (((A.drop 1).take (A.length-1)).length:Int):=hlt
    have hn2:n+1<A.length:=by omega
    refine jac (jeg (Int.natCast_nonneg n) hlt) ?_
    have hg:((A.drop 1).take (A.length-1)).getD ((n:Int).toNat) (0,((0,0),(0,0)))=A[n+1]:=by
     rw[jdv (by omega)]
     simp only[hd1,List.getElem_drop]
     congr 1
     omega
    have hd:=jgm hn2
    have fl:¬goes y A[n+1]→jjw (out++[y],none) (A.drop (n+1))=X:=fun hg=>by
     rw[←hXn]
     exact(juq fun e he=>by rw[hd] at he;cases he;exact hg).symm
    rw[hd] at hXn
    simp only
    rw[hg]
    generalize A[n+1]=z at hXn hg fl ⊢
    refine jaf (fun g=>ex (fl fun h=>g h.1.symm)) fun g1=>?_
    refine jcr (fun g=>ex (fl fun h=>?_)) fun g2=>?_
    ·have e1:z.2.1.1=y.2.1.1:=by rw[h.2.1]
     have e2:z.2.1.2=y.2.1.2:=by rw[h.2.1]
     simp[enc,e1,e2] at g
    refine jaf (fun g=>ex (fl fun h=>g h.2.2.symm)) fun g3=>?_
    have g1:z.1=y.1:=Classical.not_not.1 g1
    have g3:z.2.2.1=y.2.2.2:=Classical.not_not.1 g3
    have g2:z.2.1.1=y.2.1.1∧z.2.1.2=y.2.1.2:=by
     by_cases u1:z.2.1.1=y.2.1.1<;>by_cases u2:z.2.1.2=y.2.1.2<;>simp[enc,u1,u2] at g2 ⊢
    have hgo:goes y z:=⟨g1.symm,Prod.ext g2.1.symm g2.2.symm,g3.symm⟩
    have hz:z.1≠0:=by rw[g1];exact hy
    rw[jjw,jqc hz hgo] at hXn
    exact jac (jan (by omega) (by omega)) (jac (jan (by omega) (by omega)) (hrec6 _ ⟨n+1,(y.1,(y.2.1,(y.2.2.1,z.2.2.2))),by simp[enc],hn2,hy,hXn⟩ (by simp only;omega)))
   ·have hge:¬(n:Int)< (((A.drop 1).take (A.length-1)).length:Int):=hge
    refine ex ?_
    rw[←hXn]
    have:A.drop (n+1)=[]:=List.drop_of_length_le (by omega)
    rw[this]
    simp[jjw]
end
end X
end Go.Vm
namespace Go.Vm
namespace X
open W Go.RowKit Go.Proofs.Un
section
variable {w h:Nat} {T:List LiT}
theorem krg:In.sheets_Neighbour=sheets_Neighbour:=rfl
theorem koo:In.sheets_Count=sheets_Count:=rfl
theorem kl3:∀(l acc:List UnT),acc.length+l.length≤1000→
  jzm (fun(x2:((List (Int×Int))×Unit))=>chk (bnb 0 ((x2.1.length:Nat):Int) x2.1.length&&decide (((x2.1.length:Nat):Int)≤((x2.1.length:Nat):Int))&&decide (((x2.1.length:Nat):Int)≤((x2.1.length:Nat):Int))) (chk ((Nat.beq 0 0)&&(jl0 (some x2.1.length) (x2.1.take x2.1.length).length)) (some ((x2.1.take x2.1.length),(0:Int))))) (fun y2 rec2 x2=>chk (jeo (x2.1.length+1)) (rec2 ((x2.1++[(y2.1,y2.2)]),()))) l (acc,())=some (acc++l,0)
 | [],acc,_=>by
   simp[jzm,chk,bnb,jl0]
 | y::l,acc,h=>by
   simp only[List.length_cons] at h
   simp only[jzm]
   rw[jg9 (by omega),kl3 l (acc++[(y.1,y.2)]) (by simp only[List.length_append,List.length_singleton];omega)]
   simp[chk]
theorem kfg (hw:1≤w∧w≤6) (hh:1≤h∧h≤6):sheets_Count fuel ((w:Int),(h:Int))=some ((4*w*h:Nat):Int):=by
 have hwh:w*h≤6*6:=Nat.mul_le_mul hw.2 hh.2
 have e:4* (w:Int)* (h:Int)=((4*w*h:Nat):Int):=by simp
 have e2:4*w*h=4* (w*h):=Nat.mul_assoc _ _ _
 unfold sheets_Count
 simp only
 rw[jeb hw hh,Option.bind_some]
 simp only[ne_eq,not_true_eq_false,decide_false,cond_false]
 rw[e,jan (by omega) (by omega),jan (by omega) (by omega)]
 rfl
theorem j5z (t:Tab w h T) (hw:1≤w∧w≤6) (hh:1≤h∧h≤6) {u:UnT}:u∈T.map (·.1)↔∃i,i<12*w*h∧unP w h i=true∧u=(((i / 3:Nat):Int),((i%3:Nat):Int)):=by
 have hwh:w*h≤6*6:=Nat.mul_le_mul hw.2 hh.2
 have e2:12*w*h=12* (w*h):=Nat.mul_assoc _ _ _
 have e3:4*w*h=4* (w*h):=Nat.mul_assoc _ _ _
 have hu:=t.us
 unfold jhp at hu
 simp only at hu
 rw[jeb hw hh,Option.bind_some] at hu
 simp only[ne_eq,not_true_eq_false,decide_false,cond_false] at hu
 cases hr:j7x (((w:Int),(h:Int)),()) with
 | none=>rw[hr] at hu;cases hu
 | some L=>
   have hL:L=(unI w h (12*w*h)).map fun(i:Nat)=>(((i / 3:Nat):Int),((i%3:Nat):Int)):=by
    unfold j7x at hr
    rw[koo] at hr
    simp only at hr
    rw[kfg hw hh] at hr
    simp only[Int.toNat_natCast] at hr
    rw[show 3* (4*w*h)=12*w*h by omega] at hr
    cases hk:okU (w:Int) (h:Int) ((4*w*h:Nat):Int) with
    | true=>rw[hk] at hr;exact(Option.some.inj hr).symm
    | false=>rw[hk] at hr;cases hr
   have hLl:L.length≤1000:=by
    rw[hL,List.length_map]
    have:=List.length_filter_le (unP (w:Int) (h:Int)) (List.range (12*w*h))
    unfold unI
    rw[List.length_range] at this
    omega
   rw[hr,Option.bind_some,kl3 L [] (by simpa using hLl)] at hu
   have hT:T.map (·.1)=L:=by simpa using hu.symm
   rw[hT,hL]
   unfold unI
   simp only[List.mem_map,List.mem_filter,List.mem_range]
   constructor
   ·rintro ⟨i,⟨h1,h2⟩,rfl⟩
    exact⟨i,h1,h2,rfl⟩
   ·rintro ⟨i,h1,h2,rfl⟩
    exact⟨i,⟨h1,h2⟩,rfl⟩
theorem khs (t:Tab w h T) {i:Nat} (hi:i<12*w*h):∃n er,sheets_Neighbour fuel (((w:Int),(h:Int)),(((i / 3:Nat):Int),((i%3:Nat):Int)))=some (n,er)∧nbV w h i=some (n,er)∧(er≠0∨n≠((i / 3:Nat):Int)):=by
 have:=List.all_eq_true.1 t.nb i (List.mem_range.2 hi)
 unfold ksh at this
 split at this
 ·rename_i n er hn
  refine⟨n,er,?_,hn,by simpa using this⟩
  rw[←krg]
  exact hn
 ·cases this
theorem kfe (t:Tab w h T) (hw:1≤w∧w≤6) (hh:1≤h∧h≤6) {u:UnT} (hu:u∈T.map (·.1)):jc2 fuel (((w:Int),(h:Int)),u)=some (u,0):=by
 obtain⟨i,hi,hp,rfl⟩:=(j5z t hw hh).1 hu
 obtain⟨n,er,h1,h2,h3⟩:=khs t hi
 unfold unP at hp
 rw[h2] at hp
 simp only[Bool.and_eq_true,decide_eq_true_eq] at hp
 obtain⟨rfl,hp⟩:=hp
 unfold jc2
 simp only
 rw[h1,Option.bind_some]
 simp only[ne_eq,not_true_eq_false,decide_false,cond_false]
 rw[show min (((i / 3:Nat):Int)) n=((i / 3:Nat):Int) by omega]
theorem kjf (t:Tab w h T) (hw:1≤w∧w≤6) (hh:1≤h∧h≤6) {u:UnT} (h0:0≤u.2) (hu:u∉T.map (·.1)):∃r,jc2 fuel (((w:Int),(h:Int)),u)=some r∧(r.2≠0∨r.1.1≠u.1):=by
 have hwh:w*h≤6*6:=Nat.mul_le_mul hw.2 hh.2
 have e2:12*w*h=12* (w*h):=Nat.mul_assoc _ _ _
 have e3:4*w*h=4* (w*h):=Nat.mul_assoc _ _ _
 have e:4* (w:Int)* (h:Int)=((4*w*h:Nat):Int):=by simp
 by_cases hc:0≤u.1∧u.1< ((4*w*h:Nat):Int)
 rotate_left
 ·
  have hcell:jc3 fuel (((w:Int),(h:Int)),u.1)=some ((0,(0,0)),7):=by
   unfold jc3
   simp only
   rw[jeb hw hh,Option.bind_some]
   simp only[ne_eq,not_true_eq_false,decide_false,cond_false]
   by_cases g:0≤u.1
   ·have:¬u.1< ((4*w*h:Nat):Int):=fun h=>hc ⟨g,h⟩
    rw[e,jan (by omega) (by omega),jan (by omega) (by omega)]
    simp only[chk,cond_true,g,decide_true,this,decide_false,Bool.not_false]
   ·simp only[g,decide_false,cond_false]
  refine⟨((0,0),7),?_,.inl (by decide)⟩
  unfold jc2 sheets_Neighbour
  simp only
  rw[hcell,Option.bind_some]
  rfl
 obtain⟨hc0,hc1⟩:=hc
 by_cases he:2<u.2
 ·
  obtain⟨n,er,h1,_,_⟩:=khs t (i:=3*u.1.toNat) (by omega)
  rw[show(((3*u.1.toNat / 3:Nat):Nat):Int)=u.1 by omega] at h1
  unfold sheets_Neighbour at h1
  simp only at h1
  cases hcl:jc3 fuel (((w:Int),(h:Int)),u.1) with
  | none=>rw[hcl] at h1;cases h1
  | some r1=>
    unfold jc2 sheets_Neighbour
    simp only
    rw[hcl,Option.bind_some]
    by_cases g:r1.2=0
    ·have hcn:jbp fuel ((r1.1.1,(r1.1.2.1,r1.1.2.2)),u.2)=some ((0,(0,0)),1):=by
      unfold jbp
      simp only[he,decide_true,cond_true]
      cases decide (r1.1.1 < -4096)<;>cases decide (4096<r1.1.1)<;>cases decide (r1.1.2.1 < -4096)<;>cases decide (4096<r1.1.2.1)<;>cases decide (3<r1.1.2.2)<;>rfl
     simp only[g,ne_eq,not_true_eq_false,decide_false,cond_false]
     rw[hcn,Option.bind_some]
     exact⟨_,rfl,.inl (by decide)⟩
    ·simp only[g,ne_eq,not_false_eq_true,decide_true,cond_true,Option.bind_some]
     exact⟨_,rfl,.inl g⟩
 obtain⟨n,er,h1,h2,h3⟩:=khs t (i:=3*u.1.toNat+u.2.toNat) (by omega)
 have ei:(((3*u.1.toNat+u.2.toNat) / 3:Nat):Int)=u.1:=by omega
 have ej:(((3*u.1.toNat+u.2.toNat)%3:Nat):Int)=u.2:=by omega
 rw[ei,ej] at h1
 rw[ei] at h3
 unfold jc2
 simp only
 rw[h1,Option.bind_some]
 by_cases g:er=0
 ·subst g
  simp only[ne_eq,not_true_eq_false,decide_false,cond_false]
  refine⟨_,rfl,.inr ?_⟩
  have hnp:¬u.1<n:=fun hn=>hu ((j5z t hw hh).2 ⟨3*u.1.toNat+u.2.toNat,by omega,by unfold unP;rw[h2];simp only[decide_true,Bool.true_and,decide_eq_true_eq];omega,Prod.ext ei.symm ej.symm⟩)
  have h3:n≠u.1:=h3.resolve_left (by simp)
  simp only
  omega
 ·simp only[g,ne_eq,not_false_eq_true,decide_true,cond_true]
  exact⟨_,rfl,.inl g⟩
end
end X
end Go.Vm
namespace Go.Vm
namespace X
open W Go.RowKit Go.Proofs.Un
def kOK (c:jc1):Prop:=1≤c.2.2∧c.2.2≤3
def ltU (u v:UnT):Prop:=u.1<v.1∨u.1=v.1∧u.2<v.2
def jwk (cr:List jc1) (n:Nat):Prop:=∀j (h:j+1<cr.length),j+1<n→ltU (jbk cr[j]) (jbk cr[j+1])
open Classical in
noncomputable def j67 (T:List LiT) (cr:List jc1):Int:=if ∀c∈cr,kOK c then(if ∀c∈cr,jbk c∈T.map (·.1) then(if jwk cr cr.length then 0 else 6) else 7) else 1
section
variable {w h:Nat} {T:List LiT}
theorem jfi {α:Type} {l:List α} {i:Nat} (hi:i<l.length) {c:α} (hc:c∈l.take (i+1)):c∈l.take i∨c=l[i]:=by
 rw[jkx _ _ hi] at hc
 rcases List.mem_append.1 hc with hc | hc
 ·exact .inl hc
 ·exact .inr (List.mem_singleton.1 hc)
theorem j5w {cr:List jc1} (hl:cr.length≤1000000):∃b,jaw fuel (cr,())=some b∧(b=false↔∀c∈cr,kOK c):=by
 have:∃r,jat fuel (cr,())=some r∧(r<0↔∀c∈cr,kOK c):=by
  suffices hs:Ret (jat fuel (cr,())) fun r=>(r<0↔∀c∈cr,kOK c) from hs.imp fun r h=>h
  unfold jat
  refine ja7 (fun i:Int=>0≤i∧i≤cr.length∧∀c∈cr.take i.toNat,kOK c) (fun i=>cr.length-i.toNat) ?_ fuel 0 ⟨by omega,by omega,by simp⟩ (by simp only[fuel];omega)
  rintro i' rec ⟨i0,i1,hno⟩ hrec
  obtain⟨i,rfl⟩:∃i:Nat,i'=(i:Int):=⟨i'.toNat,by omega⟩
  rw[Int.toNat_natCast] at hno
  refine jaf (fun hlt=>?_) fun hge=>?_
  ·have hlt:(i:Int)< (cr.length:Int):=hlt
   have hi:i<cr.length:=by omega
   refine jac (jeg i0 hlt) ?_
   simp only
   rw[jdv hi]
   have bad:¬kOK cr[i]→((i:Int)<0↔∀c∈cr,kOK c):=fun hb=>⟨fun g=>absurd g (by omega),fun g=>absurd (g _ (List.getElem_mem hi)) hb⟩
   refine jaf (fun g1=>jcr (fun g2=>jas (bad ?_)) fun g2=>?_) fun g1=>jas (bad fun g=>g1 g.1)
   ·intro g
    have:=g.2
    simp[this] at g2
   ·have hk:kOK cr[i]:=⟨g1,by simpa using g2⟩
    refine jac (jan (by omega) (by omega)) (hrec _ ⟨by omega,by omega,fun c hc=>?_⟩ (by omega))
    rw[show((i:Int)+1).toNat=i+1 by omega] at hc
    rcases jfi hi hc with hc | rfl
    ·exact hno c hc
    ·exact hk
  ·have hge:¬(i:Int)< (cr.length:Int):=hge
   rw[List.take_of_length_le (by omega)] at hno
   exact jas ⟨fun _=>hno,fun _=>by decide⟩
 obtain⟨r,hr,hi⟩:=this
 refine⟨decide (0≤r),?_,?_⟩
 ·unfold jaw
  rw[hr,Option.bind_some]
 ·rw[decide_eq_false_iff_not,←hi];omega
theorem jnt {u:UnT} (t:Tab w h T) (hw:1≤w∧w≤6) (hh:1≤h∧h≤6) (hu:u∈T.map (·.1)):0≤u.1∧u.1≤1000∧0≤u.2∧u.2≤2:=by
 obtain⟨x,hx,rfl⟩:=List.mem_map.1 hu
 have li:=t.li hx
 have h1:=li.u0;have h2:=li.u1;have h3:=li.e0;have h4:=li.e2
 have:w*h≤6*6:=Nat.mul_le_mul hw.2 hh.2
 have e:(4* (w:Int)*h)=4* ((w*h:Nat):Int):=by rw[Int.natCast_mul,Int.mul_assoc]
 omega
theorem ke9 {cr:List jc1} {i:Nat} (h:jwk cr (i+1)) (hi:i+1<cr.length) (hl:ltU (jbk cr[i]) (jbk cr[i+1])):jwk cr (i+2):=fun j hj hjn=>by
 by_cases e:j=i
 ·subst e;exact hl
 ·exact h j hj (by omega)
theorem jwj (t:Tab w h T) (hw:1≤w∧w≤6) (hh:1≤h∧h≤6) {cr:List jc1} (hl:cr.length≤1000000) (hu:∀c∈cr,0≤c.2.1):jb3 fuel ((w:Int),((h:Int),cr))=some (j67 T cr):=by
 obtain⟨b,hb,hb2⟩:=j5w hl
 apply Ret.eq
 unfold jb3
 simp only
 rw[jeb hw hh,Option.bind_some,hb,Option.bind_some]
 refine jaf (fun g=>absurd rfl g) fun _=>jcr (fun hbt=>jas ?_) fun hbf=>?_
 ·unfold j67
  rw[if_neg fun h=>by rw[hb2.2 h] at hbt;cases hbt]
 have hk:=hb2.1 hbf
 unfold j67
 rw[if_pos hk]
 refine ja7 (fun i:Int=>0≤i∧i≤cr.length∧∀c∈cr.take i.toNat,jbk c∈T.map (·.1)) (fun i=>cr.length-i.toNat) ?_ fuel 0 ⟨by omega,by omega,by simp⟩ (by simp only[fuel];omega)
 rintro i' rec ⟨i0,i1,hno⟩ hrec
 obtain⟨i,rfl⟩:∃i:Nat,i'=(i:Int):=⟨i'.toNat,by omega⟩
 rw[Int.toNat_natCast] at hno
 refine jaf (fun hlt=>?_) fun hge=>?_
 ·have hi:i<cr.length:=by omega
  refine jac (jeg i0 hlt) ?_
  rw[jdv hi,show((cr[i].1,cr[i].2.1):UnT)=jbk cr[i] from rfl]
  by_cases hm:jbk cr[i]∈T.map (·.1)
  ·rw[kfe t hw hh hm,Option.bind_some]
   refine jaf (fun g=>absurd rfl g) fun _=>jcr (fun g=>by simp[jbk] at g) fun _=>?_
   refine jac (jan (by omega) (by omega)) (hrec _ ⟨by omega,by omega,fun c hc=>?_⟩ (by omega))
   rw[show((i:Int)+1).toNat=i+1 by omega] at hc
   rcases jfi hi hc with hc | rfl
   ·exact hno c hc
   ·exact hm
  ·obtain⟨r,hr,hr2⟩:=kjf t hw hh (hu _ (List.getElem_mem hi)) hm
   rw[hr,Option.bind_some,if_neg fun h=>hm (h _ (List.getElem_mem hi))]
   refine jaf (fun _=>jas rfl) fun g=>?_
   have hr3:=hr2.resolve_left g
   exact jcr (fun _=>jas rfl) fun g2=>by simp[jbk] at g2 hr3;exact absurd g2.1 hr3
 rw[List.take_of_length_le (by omega)] at hno
 rw[if_pos hno]
 clear hrec i1 hge
 refine ja7 (fun i:Int=>∃n:Nat,i=(n:Int)+1∧(n+1≤cr.length∨n=0)∧jwk cr (n+1)) (fun i=>cr.length+1-i.toNat) ?_ fuel 1 ⟨0,rfl,.inr rfl,fun j hj hjn=>by omega⟩ (by simp only[fuel];omega)
 rintro i' rec ⟨n,rfl,hn,hasc⟩ hrec
 refine jaf (fun hlt=>?_) fun hge=>?_
 ·have hi:n+1<cr.length:=by omega
  have e1:((n:Int)+1-1).toNat=n:=by omega
  refine jac (jan (by omega) (by omega)) (jac (jeg (by omega) (by omega)) (jac (jeg (by omega) hlt) ?_))
  have g1:cr.getD ((n:Int)+1-1).toNat (0,(0,0))=cr[n]:=by rw[e1,←jdv (d:=(0,(0,0))) (show n<cr.length by omega)];rw[Int.toNat_natCast]
  have g2:cr.getD ((n:Int)+1).toNat (0,(0,0))=cr[n+1]:=by rw[←jdv (d:=(0,(0,0))) hi];rfl
  rw[g1,g2]
  have m1:=jnt t hw hh (hno _ (List.getElem_mem (show n<cr.length by omega)))
  have m2:=jnt t hw hh (hno _ (List.getElem_mem hi))
  unfold jbk at m1 m2
  simp only at m1 m2
  have ho:∃r,jfc fuel ((cr[n].1,cr[n].2.1),(cr[n+1].1,cr[n+1].2.1))=some r∧(0≤r↔¬ltU (jbk cr[n]) (jbk cr[n+1])):=by
   unfold jfc ltU jbk
   simp only
   by_cases e:cr[n].1=cr[n+1].1
   ·rw[show(decide (cr[n].1≠cr[n+1].1))=false by simp[e],cond_false,jan (by omega) (by omega),jan (by omega) (by omega),jan (by omega) (by omega)]
    refine⟨_,rfl,?_⟩
    omega
   ·rw[show(decide (cr[n].1≠cr[n+1].1))=true by simp[e],cond_true,jan (by omega) (by omega)]
    refine⟨_,rfl,?_⟩
    omega
  obtain⟨r,hr,hr2⟩:=ho
  rw[hr,Option.bind_some]
  refine jaf (fun g=>jas ?_) fun g=>?_
  ·rw[if_neg (show ¬jwk cr cr.length from fun h=>hr2.1 g (h n hi hi))]
  ·have hlt2:ltU (jbk cr[n]) (jbk cr[n+1]):=Classical.byContradiction fun hc=>g (hr2.2 hc)
   exact jac (jan (by omega) (by omega)) (hrec _ ⟨n+1,by simp,by omega,ke9 hasc hi hlt2⟩ (by omega))
 ·refine jas ?_
  rw[if_pos (show jwk cr cr.length from fun j hj hjn=>hasc j hj (by omega))]
theorem ka4 (t:Tab w h T) {a b:Nat} (ha:a<T.length) (hb:b<T.length):ltU T[a].1 T[b].1↔a<b:=by
 have hp:=t.asc
 rw[List.pairwise_iff_getElem] at hp
 have key:∀ {i j:Nat} (hi:i<T.length) (hj:j<T.length),i<j→ltU T[i].1 T[j].1:=fun {i j} hi hj hij=>by
  have:=hp i j (by simpa using hi) (by simpa using hj) hij
  simpa[ltU] using this
 constructor
 ·intro hlt
  rcases Nat.lt_trichotomy a b with g | g | g
  ·exact g
  ·subst g;unfold ltU at hlt;omega
  ·have:=key hb ha g;unfold ltU at hlt this;omega
 ·exact key ha hb
theorem j4f (hw:1≤w∧w≤6) (hh:1≤h∧h≤6):ja8 fuel ((w:Int),(h:Int))=some 1:=by
 have hwh:w*h≤6*6:=Nat.mul_le_mul hw.2 hh.2
 have e:(w:Int)* (h:Int)=((w*h:Nat):Int):=by simp
 unfold ja8
 simp only
 rw[e]
 simp only[show ¬((w:Int)<1) by omega,show ¬((h:Int)<1) by omega,show ¬((256:Int)<w) by omega,show ¬((256:Int)<h) by omega,show ¬((256:Int)< ((w*h:Nat):Int)) by omega,decide_false,cond_false]
 rw[jan (by omega) (by omega)]
 rfl
theorem j1l (t:Tab w h T) (hw:1≤w∧w≤6) (hh:1≤h∧h≤6) {cr:List jc1} (hl:cr.length≤1000000):jfp fuel ((w:Int),((h:Int),cr))=some (j67 T cr):=by
 have hlen:=t.len hw.2 hh.2
 apply Ret.eq
 unfold jfp
 simp only
 rw[j4f hw hh,Option.bind_some]
 refine jaf (fun g=>absurd g (by decide)) fun _=>?_
 refine ja7 (fun i:Int=>0≤i∧i≤cr.length∧∀c∈cr.take i.toNat,kOK c) (fun i=>cr.length-i.toNat) ?_ fuel 0 ⟨by omega,by omega,by simp⟩ (by simp only[fuel];omega)
 rintro i' rec ⟨i0,i1,hno⟩ hrec
 obtain⟨i,rfl⟩:∃i:Nat,i'=(i:Int):=⟨i'.toNat,by omega⟩
 rw[Int.toNat_natCast] at hno
 refine jaf (fun hlt=>?_) fun hge=>?_
 ·have hi:i<cr.length:=by omega
  have hin:=jeg i0 hlt
  rw[jdv hi]
  have bad:¬kOK cr[i]→(1:Int)=j67 T cr:=fun hb=>by
   unfold j67
   rw[if_neg fun h=>hb (h _ (List.getElem_mem hi))]
  refine jac hin (jaf (fun g=>jas (bad fun h=>by have:=h.1;omega)) fun g1=>jac hin (jaf (fun g=>jas (bad fun h=>by have:=h.2;omega)) fun g2=>?_))
  refine jac (jan (by omega) (by omega)) (hrec _ ⟨by omega,by omega,fun c hc=>?_⟩ (by omega))
  rw[show((i:Int)+1).toNat=i+1 by omega] at hc
  rcases jfi hi hc with hc | rfl
  ·exact hno c hc
  ·exact⟨by omega,by omega⟩
 rw[List.take_of_length_le (by omega)] at hno
 unfold j67
 rw[if_pos hno,t.un,Option.bind_some]
 clear hrec i1 hge
 have hTl:(T.map (·.1)).length=T.length:=List.length_map ..
 refine ja7 (fun s:Int×(Int×Int)=>∃n:Nat,s.2.2=(n:Int)∧n≤cr.length∧(∀c∈cr.take n,jbk c∈T.map (·.1))∧(n=0∧s.1= -1∨∃(m a:Nat),∃(hm:m<cr.length) (ha:a<T.length),n=m+1∧s.1=(a:Int)∧T[a].1=jbk cr[m])∧(s.2.1=0∧jwk cr n∨s.2.1=6∧¬jwk cr n)) (fun s=>cr.length-s.2.2.toNat) ?_ fuel _ ⟨0,rfl,by omega,by simp,.inl ⟨rfl,rfl⟩,.inl ⟨rfl,fun j hj hjn=>by omega⟩⟩ (by simp only[fuel];omega)
 rintro ⟨la,e,n'⟩ rec ⟨n,hn,hnl,hpre,hla,he⟩ hrec
 simp only at hn hla he
 subst hn
 refine jaf (fun hlt=>?_) fun hge=>?_
 rotate_left
 ·have:n=cr.length:=by simp only at hge;omega
  subst this
  rw[List.take_length] at hpre
  rw[if_pos hpre]
  refine jas ?_
  rcases he with⟨h1,h2⟩ | ⟨h1,h2⟩
  ·rw[if_pos h2];exact h1
  ·rw[if_neg h2];exact h1
 have hi:n<cr.length:=by simp only at hlt;omega
 have hin:inb (n:Int) cr.length=true:=jeg (by omega) hlt
 simp only
 rw[jdv hi]
 refine ja7 (fun s:Int×Int=>∃k:Nat,s.2=(k:Int)∧k≤T.length∧(s.1= -1∧(∀q (hq:q<T.length),q<k→T[q].1≠jbk cr[n])∨∃a:Nat,∃ha:a<T.length,a<k∧s.1=(a:Int)∧T[a].1=jbk cr[n])) (fun s=>T.length-s.2.toNat) ?_ fuel _ ⟨0,rfl,by omega,.inl ⟨rfl,fun q hq h=>by omega⟩⟩ (by simp only[fuel];omega)
 rintro ⟨at',k'⟩ rec5 ⟨k,hk,hkl,hat⟩ hrec5
 simp only at hk hat
 subst hk
 refine jaf (fun hkt=>?_) fun hkt=>?_
 ·have hkt:(k:Int)< (((T.map (·.1)).length:Nat):Int):=hkt
  rw[hTl] at hkt
  have hk2:k<T.length:=by omega
  have hg:(T.map (·.1)).getD ((k:Int).toNat) (0,0)=T[k].1:=by
   rw[Int.toNat_natCast,List.getD_eq_getElem?_getD,List.getElem?_map,List.getElem?_eq_getElem hk2];rfl
  simp only
  rw[hg]
  refine jac (jeg (by omega) (by rw[hTl];exact hkt)) (jac hin (jac hin ?_))
  refine jcr (fun g=>?_) fun g=>?_
  ·have hq:T[k].1=jbk cr[n]:=by
    simp only[Bool.and_eq_true,decide_eq_true_eq] at g
    exact Prod.ext g.1 g.2
   exact jac (jan (by omega) (by omega)) (hrec5 _ ⟨k+1,by simp,hk2,.inr ⟨k,hk2,by omega,rfl,hq⟩⟩ (by simp only;omega))
  ·have hq:T[k].1≠jbk cr[n]:=fun e=>by
    have e1:T[k].1.1=cr[n].1:=by rw[e];rfl
    have e2:T[k].1.2=cr[n].2.1:=by rw[e];rfl
    simp[e1,e2] at g
   refine jac (jan (by omega) (by omega)) (hrec5 _ ⟨k+1,by simp,hk2,?_⟩ (by simp only;omega))
   rcases hat with⟨h1,h2⟩ | ⟨a,ha,h1,h2,h3⟩
   ·refine .inl ⟨h1,fun q hq hqk=>?_⟩
    by_cases e:q=k
    ·subst e;assumption
    ·exact h2 q hq (by omega)
   ·exact .inr ⟨a,ha,by omega,h2,h3⟩
 ·have hkt:¬(k:Int)< (((T.map (·.1)).length:Nat):Int):=hkt
  rw[hTl] at hkt
  have hk2:k=T.length:=by omega
  subst hk2
  rcases hat with⟨h1,h2⟩ | ⟨a,ha,_,h2,h3⟩
  ·refine jaf (fun _=>jas ?_) fun g=>absurd (by simp only[h1];decide) g
   rw[if_neg fun h=>?_]
   obtain⟨x,hx,ex⟩:=List.mem_map.1 (h _ (List.getElem_mem hi))
   obtain⟨q,hq,rfl⟩:=List.getElem_of_mem hx
   exact h2 q hq hq ex
  ·have hm:jbk cr[n]∈T.map (·.1):=List.mem_map.2 ⟨_,List.getElem_mem ha,h3⟩
   have hpre2:∀c∈cr.take (n+1),jbk c∈T.map (·.1):=fun c hc=>by
    rcases jfi hi hc with hc | rfl
    ·exact hpre c hc
    ·exact hm
   have hlast:∃(m a:Nat),∃(hm:m<cr.length) (ha:a<T.length),n+1=m+1∧at'=(a:Int)∧T[a].1=jbk cr[m]:=⟨n,a,hi,ha,rfl,h2,h3⟩
   refine jaf (fun g=>absurd g (by simp only[h2];omega)) fun _=>?_
   refine jaf (fun g=>?_) fun g=>?_
   ·refine jac (jan (by omega) (by omega)) (hrec _ ⟨n+1,by simp,hi,hpre2,.inr hlast,.inr ⟨rfl,fun h=>?_⟩⟩ (by simp only;omega))
    simp only[h2] at g
    rcases hla with⟨_,g1⟩ | ⟨m,b,hm2,hb,g1,g2,g3⟩
    ·omega
    ·subst g1
     have:=h m hi (by omega)
     rw[←g3,←h3,ka4 t hb ha] at this
     omega
   ·simp only[h2] at g
    refine jac (jan (by omega) (by omega)) (hrec _ ⟨n+1,by simp,hi,hpre2,.inr hlast,?_⟩ (by simp only;omega))
    have hs:∀m,n=m+1→∀hm2:m<cr.length,ltU (jbk cr[m]) (jbk cr[n]):=fun m hnm hm2=>by
     rcases hla with⟨g0,_⟩ | ⟨m2,b,hm3,hb,g1,g2,g3⟩
     ·omega
     ·have:m2=m:=by omega
      subst this
      rw[←g3,←h3,ka4 t hb ha]
      omega
    have hiff:jwk cr (n+1)↔jwk cr n:=by
     constructor
     ·exact fun h j hj hjn=>h j hj (by omega)
     ·intro h j hj hjn
      by_cases e:j+1=n
      ·subst e
       exact hs j rfl (by omega)
      ·exact h j hj (by omega)
    simp only
    rw[hiff]
    exact he
end
end X
end Go.Vm
namespace Go.Vm
namespace X
open W Go.RowKit Go.Proofs.Un
def ngo (a b:SgT):Bool:= !decide (goes a b)
def koi (c e:SgT):SgT:=(c.1,(c.2.1,(c.2.2.1,e.2.2.2)))
def jr3:SgT→List SgT→List SgT
 | c,[]=>[c]
 | c,e::l=>if goes c e then jr3 (koi c e) l else c::jr3 e l
theorem jtt:∀(l:List SgT) (out:List SgT) (c:SgT),(∀e∈l,e.1≠0)→jjw (out,some c) l=out++jr3 c l
 | [],out,c,_=>rfl
 | e::l,out,c,h=>by
   have he:=h e List.mem_cons_self
   have hl:∀e∈l,e.1≠0:=fun x hx=>h x (List.mem_cons_of_mem _ hx)
   simp only[jr3]
   by_cases g:goes c e
   ·rw[jjw,jqc he g,if_pos g]
    exact jtt l out (koi c e) hl
   ·rw[jjw,jtr he g,if_neg g,jtt l _ e hl]
    simp
theorem j2g:∀(l:List SgT) (c:SgT),∃d r,jr3 c l=d::r∧d.1=c.1∧d.2.1=c.2.1∧d.2.2.1=c.2.2.1
 | [],c=>⟨c,[],rfl,rfl,rfl,rfl⟩
 | e::l,c=>by
   simp only[jr3]
   by_cases g:goes c e
   ·rw[if_pos g]
    obtain⟨d,r,h1,h2,h3,h4⟩:=j2g l (koi c e)
    exact⟨d,r,h1,h2,h3,h4⟩
   ·rw[if_neg g]
    exact⟨c,_,rfl,rfl,rfl,rfl⟩
theorem j47:∀(l:List SgT) (c:SgT),adj ngo (jr3 c l)=true
 | [],c=>rfl
 | e::l,c=>by
   simp only[jr3]
   by_cases g:goes c e
   ·rw[if_pos g];exact j47 l _
   ·rw[if_neg g]
    obtain⟨d,r,h1,h2,h3,h4⟩:=j2g l e
    have ih:=j47 l e
    rw[h1] at ih ⊢
    have:ngo c d=true:=by
     unfold ngo
     simp only[Bool.not_eq_true',decide_eq_false_iff_not]
     rintro ⟨g1,g2,g3⟩
     exact g ⟨by rw[g1,h2],by rw[g2,h3],by rw[g3,h4]⟩
    have e:adj ngo (c::d::r)=(ngo c d&&adj ngo (d::r)):=rfl
    rw[e,this,ih]
    rfl
theorem kgl {α:Type} {r:α→α→Bool}:∀ {l:List α},adj r l=true→∀i (h:i+1<l.length),r l[i] l[i+1]=true
 | [],_,i,h=>by simp at h
 | [x],_,i,h=>by simp at h
 | x::y::l,ha,i,h=>by
   have e:adj r (x::y::l)=(r x y&&adj r (y::l)):=rfl
   rw[e,Bool.and_eq_true] at ha
   cases i with
   | zero=>exact ha.1
   | succ i=>exact kgl ha.2 i (by simpa using h)
def kj2 (K:UnT→Int) (k:Int) (l:Int×Int):Int→List LiT→Int→Prop
 | p,[],q=>p=q
 | p,x::r,q=>K x.1=k∧x.2.1=l∧x.2.2.1=p∧kj2 K k l x.2.2.2 r q
theorem j3i {K:UnT→Int} {k:Int} {l:Int×Int}:∀ {r:List LiT} {p q:Int} {x:LiT},kj2 K k l p r q→K x.1=k→x.2.1=l→x.2.2.1=q→kj2 K k l p (r++[x]) x.2.2.2
 | [],p,q,x,h,h1,h2,h3=>by cases h;exact⟨h1,h2,h3,rfl⟩
 | y::r,p,q,x,h,h1,h2,h3=>⟨h.1,h.2.1,h.2.2.1,j3i h.2.2.2 h1 h2 h3⟩
structure Run (K:UnT→Int) (s:SgT) (r:List LiT):Prop where
 ne:r≠[]
 run:kj2 K s.1 s.2.1 s.2.2.1 r s.2.2.2
theorem jvq {K:UnT→Int}:∀(l:List LiT) (c:SgT) (r:List LiT),Run K c r→∃RS:List (SgT×List LiT),jr3 c (kW K l)=RS.map (·.1)∧(∀s∈RS,Run K s.1 s.2)∧RS.flatMap (·.2)=r++l
 | [],c,r,h=>⟨[(c,r)],rfl,fun s hs=>by rw[List.mem_singleton.1 hs];exact h,by simp⟩
 | x::l,c,r,h=>by
   have e:jr3 c (kW K (x::l))=if goes c (K x.1,x.2) then jr3 (koi c (K x.1,x.2)) (kW K l) else c::jr3 (K x.1,x.2) (kW K l):=rfl
   rw[e]
   by_cases g:goes c (K x.1,x.2)
   ·rw[if_pos g]
    obtain⟨RS,h1,h2,h3⟩:=jvq l (koi c (K x.1,x.2)) (r++[x]) ⟨by simp,j3i h.run g.1.symm g.2.1.symm g.2.2.symm⟩
    exact⟨RS,h1,h2,by rw[h3];simp⟩
   ·rw[if_neg g]
    obtain⟨RS,h1,h2,h3⟩:=jvq l (K x.1,x.2) [x] ⟨by simp,rfl,rfl,rfl,rfl⟩
    refine⟨(c,r)::RS,by rw[h1];rfl,fun s hs=>?_,by rw[List.flatMap_cons,h3];simp⟩
    rcases List.mem_cons.1 hs with rfl | hs
    ·exact h
    ·exact h2 s hs
section
variable {w h:Nat} {T:List LiT}
def fL (T:List LiT) (w h:Nat) (K:UnT→Int):List LiT:=(jlv T w h).filter fun x=>decide (K x.1≠0)
theorem j4b (K:UnT→Int):j3t T w h K=kW K (fL T w h K):=by
 unfold j3t fL kW
 rw[List.filter_map]
 rfl
theorem j62 (t:Tab w h T) {K:UnT→Int} {x:LiT}:x∈fL T w h K↔x∈T∧K x.1≠0:=by
 unfold fL
 rw[List.mem_filter,jp7 t]
 simp
theorem kdr (t:Tab w h T) (K:UnT→Int):∃RS:List (SgT×List LiT),j3s T w h K=RS.map (·.1)∧(∀s∈RS,Run K s.1 s.2)∧RS.flatMap (·.2)=fL T w h K:=by
 rw[j96 t,j4b]
 have hN:∀x∈fL T w h K,K x.1≠0:=fun x hx=>((j62 t).1 hx).2
 cases hf:fL T w h K with
 | nil=>exact⟨[],rfl,(fun s hs=>by cases hs),rfl⟩
 | cons x r=>
   rw[hf] at hN
   have h0:=hN x List.mem_cons_self
   have e:jjw ([],none) (kW K (x::r))=jr3 (K x.1,x.2) (kW K r):=by
    have:jjw ([],none) (kW K (x::r))=jjw (stepG ([],none) (K x.1,x.2)) (kW K r):=rfl
    rw[this,jrh h0,jtt]
    ·rfl
    ·intro e he
     obtain⟨y,hy,rfl⟩:=List.mem_map.1 he
     exact hN y (List.mem_cons_of_mem _ hy)
   rw[e]
   exact jvq r _ [x] ⟨by simp,rfl,rfl,rfl,rfl⟩
theorem kkp (t:Tab w h T) (K:UnT→Int):adj ngo (j3s T w h K)=true:=by
 rw[j96 t,j4b]
 have hN:∀x∈fL T w h K,K x.1≠0:=fun x hx=>((j62 t).1 hx).2
 cases hf:fL T w h K with
 | nil=>rfl
 | cons x r=>
   rw[hf] at hN
   have h0:=hN x List.mem_cons_self
   have:jjw ([],none) (kW K (x::r))=jjw (stepG ([],none) (K x.1,x.2)) (kW K r):=rfl
   rw[this,jrh h0,jtt]
   ·exact j47 _ _
   ·intro e he
    obtain⟨y,hy,rfl⟩:=List.mem_map.1 he
    exact hN y (List.mem_cons_of_mem _ hy)
theorem jsd (hT:TB T) (hk:KeyD T) {K:UnT→Int} {k:Int} {l:Int×Int} {q:Int}:∀(r:List LiT) (p:Int),(∀x∈r,x∈T)→kj2 K k l p r q→wkS T l q p=some (r.map (·.1))∧p≤q
 | [],p,_,h=>by
   cases h
   rw[jt7 hT,if_pos rfl]
   exact⟨rfl,Int.le_refl _⟩
 | x::r,p,hm,⟨h1,h2,h3,h4⟩=>by
   have hx:=hm x List.mem_cons_self
   obtain⟨i1,i2⟩:=jsd hT hk r _ (fun y hy=>hm y (List.mem_cons_of_mem _ hy)) h4
   have:=hT x hx
   have hl:lkT T l p=some x:=by rw[←h2,←h3];exact ka9 hk hx
   rw[jt7 hT,if_neg (by omega),hl]
   simp only
   rw[if_neg (by omega),i1]
   exact⟨rfl,by omega⟩
theorem j3h (t:Tab w h T) (hw:w≤6) (hh:h≤6) {K:UnT→Int} {s:SgT} {r:List LiT} (hr:Run K s r) (hm:∀x∈r,x∈T) (hK:∀x∈r,1≤K x.1∧K x.1≤3):jca T s=(r.map (·.1),0):=by
 have hT:=t.tb hw hh
 obtain⟨h1,h2⟩:=jsd hT t.key r _ hm hr.run
 cases r with
 | nil=>exact absurd rfl hr.ne
 | cons x r=>
   obtain⟨g1,g2,g3,g4⟩:=hr.run
   have hx:=hm x List.mem_cons_self
   have hk:=hK x List.mem_cons_self
   have li:=t.li hx
   have:=(jsd hT t.key r _ (fun y hy=>hm y (List.mem_cons_of_mem _ hy)) g4).2
   have b:=hT x hx
   have a1:=li.k1;have a2:=li.k4;have a3:=li.c0;have a4:=li.c1
   rw[g2] at a1 a2 a3 a4
   have ho:OrdP s:=⟨by omega,by omega,a1,a2,by omega,by omega,by omega⟩
   rw[jxf ho,h1]
end
section
variable {w h:Nat} {T:List LiT}
theorem j7h {k:Int} (hk:1≤k∧k≤3):∀(us:List UnT) (out:List jc1),OutOK T out→(out.map jbk++us).Nodup→(∀v∈us,v∈T.map (·.1))→j3v k out us=some (out++us.map fun v=>(v.1,(v.2,k)))
 | [],out,_,_,_=>by simp[j3v]
 | v::us,out,ho,hn,hs=>by
   have hv:jau out v=0:=by
    rw[jnx ho]
    intro hm
    rw[List.nodup_append] at hn
    exact hn.2.2 v hm v List.mem_cons_self rfl
   have e1:(out++[(v.1,(v.2,k))]).map jbk++us=out.map jbk++v::us:=by simp[jbk]
   rw[j3v,if_pos hv,j7h hk us _ (ho.add hv (hs v List.mem_cons_self) hk) (by rw[e1];exact hn) fun x hx=>hs x (List.mem_cons_of_mem _ hx)]
   simp
theorem jy2 (t:Tab w h T) (hw:w≤6) (hh:h≤6) {K:UnT→Int}:∀(RS:List (SgT×List LiT)) (i:Int) (out:List jc1),OutOK T out→(∀s∈RS,Run K s.1 s.2)→(∀x∈RS.flatMap (·.2),x∈T∧1≤K x.1∧K x.1≤3)→
  (out.map jbk++(RS.flatMap (·.2)).map (·.1)).Nodup→j3u T i out (RS.map (·.1))=.inl (out++(RS.flatMap (·.2)).map fun x=>(x.1.1,(x.1.2,K x.1)))
 | [],i,out,_,_,_,_=>by simp[j3u]
 | s::RS,i,out,ho,hr,hm,hn=>by
   have hs:=hr s List.mem_cons_self
   rw[List.flatMap_cons] at hm hn ⊢
   have hm1:∀x∈s.2,x∈T∧1≤K x.1∧K x.1≤3:=fun x hx=>hm x (List.mem_append_left _ hx)
   have hu:=j3h t hw hh hs (fun x hx=>(hm1 x hx).1) (fun x hx=>(hm1 x hx).2)
   have hK:∀(r:List LiT) (p q:Int),kj2 K s.1.1 s.1.2.1 p r q→∀x∈r,K x.1=s.1.1:=by
    intro r
    induction r with
    | nil=>intro p q _ x hx;cases hx
    | cons y r ih=>
      intro p q hr x hx
      rcases List.mem_cons.1 hx with rfl | hx
      ·exact hr.1
      ·exact ih _ _ hr.2.2.2 x hx
   have hK:=hK _ _ _ hs.run
   have hk:1≤s.1.1∧s.1.1≤3:=by
    cases hs2:s.2 with
    | nil=>exact absurd hs2 hs.ne
    | cons y r=>
      rw[hs2] at hK hm1
      rw[←hK y List.mem_cons_self]
      exact(hm1 y List.mem_cons_self).2
   have hn1:(out.map jbk++s.2.map (·.1)).Nodup:=by
    rw[List.map_append,←List.append_assoc] at hn
    exact(List.nodup_append.1 hn).1
   have ha:=j7h hk (s.2.map (·.1)) out ho hn1 (fun v hv=>by obtain⟨x,hx,rfl⟩:=List.mem_map.1 hv;exact List.mem_map.2 ⟨x,(hm1 x hx).1,rfl⟩)
   have ho2:=j5q hk _ _ _ ho (fun v hv=>by obtain⟨x,hx,rfl⟩:=List.mem_map.1 hv;exact List.mem_map.2 ⟨x,(hm1 x hx).1,rfl⟩) ha
   have e2:(s.2.map (·.1)).map (fun v:UnT=>((v.1,(v.2,s.1.1)):jc1))=s.2.map fun x=>(x.1.1,(x.1.2,K x.1)):=by
    rw[List.map_map]
    refine List.map_congr_left fun x hx=>?_
    simp only[Function.comp_apply]
    rw[hK x hx]
   rw[List.map_cons,j3u,hu]
   simp only[if_true]
   rw[ha]
   simp only
   rw[jy2 t hw hh RS _ _ ho2 (fun x hx=>hr x (List.mem_cons_of_mem _ hx)) (fun x hx=>hm x (List.mem_append_right _ hx)) ?_,e2]
   ·simp
   ·have e3:(out++(s.2.map (·.1)).map (fun v:UnT=>((v.1,(v.2,s.1.1)):jc1))).map jbk=out.map jbk++s.2.map (·.1):=by
     rw[List.map_append,List.map_map]
     congr 1
     exact(List.map_congr_left fun x hx=>rfl).trans (List.map_id' _)
    rw[e3,List.append_assoc,←List.map_append]
    exact hn
end
end X
end Go.Vm
namespace Go.Vm
namespace X
open W
theorem kpp (x:Int) {n:Int} (hn:0<n): -n<x.tmod n∧x.tmod n<n:=⟨Int.lt_tmod_of_pos x hn,Int.tmod_lt_of_pos x hn⟩
theorem kc4 (x:Int×(Int×(Int×(Int×Int)))):∃r,jir fuel x=some r:=by
 refine Exists.imp (fun _ h=>h) (?_:∃r,_)
 have a1:=kpp x.2.2.2.1 (n:=12) (by omega)
 have a2:=kpp x.2.2.1 (n:=9) (by omega)
 have a3:=kpp x.2.2.2.2 (n:=10) (by omega)
 unfold jir
 rw[jan (by omega) (by omega),jan (by omega) (by omega),jan (by omega) (by omega),jan (by omega) (by omega),jan (by omega) (by omega)]
 exact⟨_,rfl⟩
theorem jwi {p:kcx} (h:p.2.2.length≤1000000):jft fuel (p,p)=some 0:=by
 apply Ret.eq
 unfold jft
 refine jcr (fun g=>by simp at g) fun _=>?_
 refine jaf (fun g=>absurd rfl g) fun _=>?_
 refine ja7 (fun i:Int=>0≤i∧i≤p.2.2.length) (fun i=>p.2.2.length-i.toNat) ?_ fuel 0 ⟨by omega,by omega⟩ (by simp only[fuel];omega)
 rintro i rec ⟨i0,i1⟩ hrec
 refine jaf (fun hlt=>?_) fun _=>jas rfl
 have hin:=jeg i0 hlt
 have hlt:i< (p.2.2.length:Int):=hlt
 refine jac hin (jac hin ?_)
 refine jcr (fun g=>by simp at g) fun _=>?_
 exact jac (jan (by omega) (by omega)) (hrec _ ⟨by omega,by omega⟩ (by omega))
theorem kd0 (T:List LiT) (w h:Nat) (l:List SgT):(j6h T w h l).1.2.2.length≤T.length:=by
 unfold j6h
 split
 ·simp only[jzv]
  exact List.length_filterMap_le _ _
 ·simp
theorem joi (tab:∀w h:Nat,(1≤w∧w≤5)→(1≤h∧h≤5)→∃T,Tab w h T) {a:Int×Int} {x:List (Int×(Int×(Int×(Int×Int))))} (h1:0≤a.1) (h2:a.1≤255) (h3:0≤a.2) (h4:a.2≤255):
  jb7 fuel (a,x)=some true:=by
 obtain⟨w,h,hw,hh,e⟩:=kcp h1 h2 h3 h4
 obtain⟨T,t⟩:=tab w h hw hh
 have hw':1≤w∧w≤6:=by omega
 have hh':1≤h∧h≤6:=by omega
 have hlen:=t.len hw'.2 hh'.2
 apply Ret.eq
 unfold jb7
 refine jaf (fun _=>jas rfl) fun hx=>?_
 have hx:x.length≤12:=by simp only at hx;omega
 rw[show(a.1,a.2)=a from rfl,e,Option.bind_some]
 refine ja7 (fun s:List SgT×Int=>0≤s.2∧s.2≤x.length∧s.1.length=s.2.toNat) (fun s=>x.length-s.2.toNat) ?_ fuel ([],0) ⟨by simp,by simp,rfl⟩ (by simp only[fuel];omega)
 rintro ⟨l,i⟩ rec ⟨i0,i1,hl⟩ hrec
 simp only at i0 i1 hl
 refine jaf (fun hlt=>?_) fun _=>?_
 ·simp only at hlt
  refine jac (jeg i0 hlt) ?_
  obtain⟨r,hr⟩:=kc4 ((x.getD i.toNat (0,(0,(0,(0,0))))).1,((x.getD i.toNat (0,(0,(0,(0,0))))).2.1,((x.getD i.toNat (0,(0,(0,(0,0))))).2.2.1,((x.getD i.toNat (0,(0,(0,(0,0))))).2.2.2.1,(x.getD i.toNat (0,(0,(0,(0,0))))).2.2.2.2))))
  rw[hr,Option.bind_some]
  refine jac (jg9 (by simp only;omega)) (jac (jan (by simp only;omega) (by simp only;omega)) (hrec _ ⟨by simp only;omega,by simp only;omega,?_⟩ (by simp only;omega)))
  simp only[List.length_append,List.length_singleton]
  omega
 ·have hl2:l.length≤1000000:=by omega
  have e1:=jyf t hw' hh' (l:=l) hl2
  have e2:=jyr t hw' hh' (l:=l) hl2
  rw[e1,Option.bind_some,e2,Option.bind_some]
  refine jaf (fun _=>?_) fun g=>absurd rfl g
  refine jaf (fun _=>?_) fun g=>absurd rfl g
  have e3:=jwi (p:=(j6h T w h l).1) (by have:=kd0 T w h l;omega)
  rw[show(((j6h T w h l).1.1,((j6h T w h l).1.2.1,(j6h T w h l).1.2.2)):kcx)=(j6h T w h l).1 from rfl,e3,Option.bind_some]
  exact jaf (fun _=>jfw) fun g=>absurd rfl g
end X
end Go.Vm
namespace Go.Vm
namespace X
open W Go.RowKit Go.Proofs.Un
theorem jt8:∀(U:List UnT) (A:List Int),((jlu U A).map jbk).Sublist U
 | [],A=>by cases A<;>exact List.Sublist.refl _
 | u::U,[]=>List.nil_sublist _
 | u::U,a::A=>by
   by_cases h:a=0
   ·rw[jlu,if_pos h]
    exact(jt8 U A).cons _
   ·rw[jlu,if_neg h,List.map_cons]
    exact(jt8 U A).cons_cons _
theorem jre:∀(U:List UnT) (A:List Int) (c:jc1),c∈jlu U A→c.2.2∈A∧c.2.2≠0
 | [],A,c,h=>by cases A<;>cases h
 | u::U,[],c,h=>by cases h
 | u::U,a::A,c,h=>by
   by_cases h0:a=0
   ·rw[jlu,if_pos h0] at h
    have:=jre U A c h
    exact⟨List.mem_cons_of_mem _ this.1,this.2⟩
   ·rw[jlu,if_neg h0] at h
    rcases List.mem_cons.1 h with rfl | h
    ·exact⟨List.mem_cons_self,h0⟩
    ·have:=jre U A c h
     exact⟨List.mem_cons_of_mem _ this.1,this.2⟩
structure PatOK (T:List LiT) (cr:List jc1):Prop where
 ok:OutOK T cr
 pw:(cr.map jbk).Pairwise ltU
section
variable {w h:Nat} {T:List LiT}
theorem kdi (t:Tab w h T) {A:List Int} (hA:∀a∈A,0≤a∧a≤3):PatOK T (jlu (T.map (·.1)) A):=by
 have hs:=jt8 (T.map (·.1)) A
 refine⟨⟨hs.nodup t.ndU,fun c hc=>hs.subset (List.mem_map.2 ⟨c,hc,rfl⟩),fun c hc=>?_⟩,List.Pairwise.sublist hs t.asc⟩
 have:=jre _ _ _ hc
 have:=hA _ this.1
 omega
theorem kbv (t:Tab w h T) (hw:1≤w∧w≤6) (hh:1≤h∧h≤6) {cr:List jc1} (ho:PatOK T cr):jzv T cr=cr:=by
 have hs:=jk9 t cr
 refine jkf cfC (fun x hx y hy h1 h2=>?_) (hs.imp fun {a b} h c=>by rw[js1] at *;omega) ?_ (jvu t ho.ok).symm
 ·obtain⟨i,hi,rfl⟩:=List.getElem_of_mem hx
  obtain⟨j,hj,rfl⟩:=List.getElem_of_mem hy
  rw[List.pairwise_iff_getElem] at hs
  rcases Nat.lt_trichotomy i j with g | g | g
  ·exact absurd (hs i j hi hj g) h1
  ·subst g;rfl
  ·exact absurd (hs j i hj hi g) h2
 ·have hp:=List.pairwise_map.1 ho.pw
  have:cr.Pairwise fun a b=>(a∈cr∧b∈cr)∧ltU (jbk a) (jbk b):=by
   rw[List.pairwise_iff_getElem] at hp ⊢
   exact fun i j hi hj hij=>⟨⟨List.getElem_mem _,List.getElem_mem _⟩,hp i j hi hj hij⟩
  refine this.imp fun {a b} ⟨⟨ha,hb⟩,hl⟩ c=>?_
  have m1:=jnt t hw hh (ho.ok.sub a ha)
  have m2:=jnt t hw hh (ho.ok.sub b hb)
  unfold jbk at m1 m2
  simp only at m1 m2
  rw[js1,w64 (by omega) (by omega),w64 (by omega) (by omega)] at c
  unfold ltU jbk at hl
  simp only at hl
  omega
theorem kge {cr:List jc1} (ho:PatOK T cr):j67 T cr=0:=by
 unfold j67
 rw[if_pos (show ∀c∈cr,kOK c from ho.ok.k1),if_pos ho.ok.sub,if_pos]
 intro j hj hjn
 have hp:=List.pairwise_map.1 ho.pw
 rw[List.pairwise_iff_getElem] at hp
 exact hp j (j+1) (by omega) hj (by omega)
theorem kos {cr:List jc1} (h:jwk cr cr.length):(cr.map jbk).Pairwise ltU:=by
 rw[List.pairwise_map,List.pairwise_iff_getElem]
 have key:∀d i (hi:i+d+1<cr.length),ltU (jbk cr[i]) (jbk cr[i+d+1]):=by
  intro d
  induction d with
  | zero=>exact fun i hi=>h i hi hi
  | succ d ih=>
    intro i hi
    have h1:=ih i (by omega)
    have h2:=h (i+d+1) (by omega) (by omega)
    have e:i+ (d+1)+1=i+d+1+1:=by omega
    simp only[e]
    unfold ltU at *
    omega
 intro i j hi hj hij
 have:=key (j-i-1) i (by omega)
 have e:i+ (j-i-1)+1=j:=by omega
 simp only[e] at this
 exact this
theorem ki1 {cr:List jc1} (h0:j67 T cr=0):PatOK T cr:=by
 unfold j67 at h0
 split at h0
 ·rename_i h1
  split at h0
  ·rename_i h2
   split at h0
   ·rename_i h3
    have hp:=kos h3
    exact⟨⟨hp.imp fun {a b} h e=>by subst e;unfold ltU at h;omega,h2,h1⟩,hp⟩
   ·cases h0
  ·cases h0
 ·cases h0
theorem kdu {RS:List (SgT×List LiT)} {K:UnT→Int} (h:∀s∈RS,Run K s.1 s.2):RS.length≤(RS.flatMap (·.2)).length:=by
 induction RS with
 | nil=>simp
 | cons s RS ih=>
   have h1:=(h s List.mem_cons_self).ne
   have h2:=ih fun x hx=>h x (List.mem_cons_of_mem _ hx)
   rw[List.flatMap_cons,List.length_append,List.length_cons]
   have:1≤s.2.length:=by
    cases hs:s.2 with
    | nil=>exact absurd hs h1
    | cons y r=>simp
   omega
structure SegOK (T:List LiT) (w h:Nat) (cr:List jc1) (X:List SgT):Prop where
 len:X.length≤1000
 un:∀s∈X,(jca T s).2=0
 sum:(X.map fun s=>(jca T s).1.length).sum=cr.length
 pat:j6h T w h X=(((w:Int),((h:Int),cr)),(0,0))
 ng:adj ngo X=true
theorem kft (t:Tab w h T) (hw:1≤w∧w≤6) (hh:1≤h∧h≤6) {cr:List jc1} (ho:PatOK T cr):SegOK T w h cr (j3s T w h (jau cr)):=by
 obtain⟨RS,h1,h2,h3⟩:=kdr t (jau cr)
 have hm:∀x∈RS.flatMap (·.2),x∈T∧1≤jau cr x.1∧jau cr x.1≤3:=fun x hx=>by
  rw[h3,j62 t] at hx
  refine⟨hx.1,?_⟩
  have hin:x.1∈cr.map jbk:=Classical.byContradiction fun hn=>hx.2 ((jnx ho.ok).2 hn)
  obtain⟨c,hc,ec⟩:=List.mem_map.1 hin
  have:=jnw ho.ok.nd hc
  rw[ec] at this
  rw[this]
  exact ho.ok.k1 c hc
 have hfl:(fL T w h (jau cr)).length=cr.length:=by
  have:=(juo t ho.ok).length_eq
  rw[j4b,List.length_map] at this
  rw[this]
  unfold kW
  rw[List.length_map]
 have hcl:=ho.ok.len t hw.2 hh.2
 have hu:∀s∈RS,jca T s.1=(s.2.map (·.1),0):=fun s hs=>by
  have hsub:∀x∈s.2,x∈RS.flatMap (·.2):=fun x hx=>List.mem_flatMap.2 ⟨s,hs,hx⟩
  exact j3h t hw.2 hh.2 (h2 s hs) (fun x hx=>(hm x (hsub x hx)).1) fun x hx=>(hm x (hsub x hx)).2
 have hnd:((RS.flatMap (·.2)).map (·.1)).Nodup:=by
  rw[h3]
  unfold fL
  have hw2:((jlv T w h).map (·.1)).Nodup:=by
   have:=(jt9 t).map (·.1)
   exact this.symm.nodup t.ndU
  exact(List.Sublist.map _ List.filter_sublist).nodup hw2
 refine⟨?_,?_,?_,?_,kkp t _⟩
 ·rw[h1,List.length_map]
  have:=kdu h2
  rw[h3,hfl] at this
  omega
 ·intro s hs
  rw[h1] at hs
  obtain⟨r,hr,rfl⟩:=List.mem_map.1 hs
  rw[hu r hr]
 ·rw[h1,List.map_map,←hfl,←h3,List.length_flatMap]
  congr 1
  refine List.map_congr_left fun s hs=>?_
  simp only[Function.comp_apply]
  rw[hu s hs,List.length_map]
 ·unfold j6h
  rw[h1,jy2 t hw.2 hh.2 RS 0 [] ju4 h2 hm (by simpa using hnd)]
  simp only[List.nil_append]
  have hout:OutOK T ((RS.flatMap (·.2)).map fun x=>((x.1.1,(x.1.2,jau cr x.1)):jc1)):=by
   refine kan (RS.map (·.1)) 0 [] _ ju4 ?_
   rw[jy2 t hw.2 hh.2 RS 0 [] ju4 h2 hm (by simpa using hnd)]
   rfl
  have hfe:jzv T ((RS.flatMap (·.2)).map fun x=>((x.1.1,(x.1.2,jau cr x.1)):jc1))=jzv T cr:=by
   unfold jzv
   refine jj6 fun x hx=>?_
   have hk:jau ((RS.flatMap (·.2)).map fun x=>((x.1.1,(x.1.2,jau cr x.1)):jc1)) x.1=jau cr x.1:=by
    by_cases h0:jau cr x.1=0
    ·rw[h0,jnx hout]
     intro hin
     obtain⟨c,hc,ec⟩:=List.mem_map.1 hin
     obtain⟨y,hy,rfl⟩:=List.mem_map.1 hc
     have hy2:=hm y hy
     have:y.1=x.1:=ec
     rw[this,h0] at hy2
     omega
    ·have hin:x∈RS.flatMap (·.2):=by rw[h3,j62 t];exact⟨hx,h0⟩
     exact jnw hout.nd (c:=(x.1.1,(x.1.2,jau cr x.1))) (List.mem_map.2 ⟨x,hin,rfl⟩)
   rw[hk]
  rw[hfe,kbv t hw hh ho]
theorem lv:jbh fuel ()=some true:=j4y
theorem kpk (t:Tab w h T) (hw:1≤w∧w≤6) (hh:1≤h∧h≤6) {cr:List jc1} (ho:PatOK T cr):jbo fuel ((w:Int),((h:Int),cr))=some (j3s T w h (jau cr),0):=by
 have hcl:=ho.ok.len t hw.2 hh.2
 refine kr7 t hw hh ?_ ho.ok
 rw[jwj t hw hh (by omega) fun c hc=>(jnt t hw hh (ho.ok.sub c hc)).2.2.1,kge ho]
theorem kky (t:Tab w h T) (hw:1≤w∧w≤6) (hh:1≤h∧h≤6) {cr:List jc1} (ho:PatOK T cr) {a:Int×(Int×List Int)} (ha:jez fuel a=some ((w:Int),((h:Int),cr))):jct fuel a=some true:=by
 have hcl:=ho.ok.len t hw.2 hh.2
 have hT:=t.tb hw.2 hh.2
 apply Ret.eq
 unfold jct
 rw[show(a.1,(a.2.1,a.2.2))=a from rfl,ha,Option.bind_some]
 simp only
 rw[kpk t hw hh ho,Option.bind_some,kdw t hw hh (by omega),Option.bind_some]
 have hs:=kft t hw hh ho
 generalize j3s T w h (jau cr)=X at hs ⊢
 simp only
 refine jnh (fun b=>b=false) (fun b hb=>?_) fun j hj=>?_
 rotate_left
 ·refine jaf (fun g=>absurd rfl g) fun _=>jaf (fun g=>absurd rfl g) fun _=>hj _ (by simp)
 subst hb
 rw[cond_false]
 refine ja7 (fun s:Int×Int=>∃n:Nat,s.2=(n:Int)∧n≤X.length∧s.1=(((X.take n).map fun s=>(jca T s).1.length).sum:Nat)∧s.1≤24* (n:Int)) (fun s=>X.length-s.2.toNat) ?_ fuel _ ⟨0,rfl,by omega,by simp,by simp⟩ (by simp only[fuel];have:=hs.len;omega)
 rintro ⟨long,n'⟩ rec ⟨n,hn,hnl,hlong,hl24⟩ hrec
 simp only at hn hlong hl24
 subst hn
 have hX:=hs.len
 refine jaf (fun hlt=>?_) fun hge=>?_
 ·have hi:n<X.length:=by simp only at hlt;omega
  have hin:inb (n:Int) X.length=true:=jeg (by omega) hlt
  simp only
  rw[jdv hi]
  refine jnh (fun b=>b=false) (fun b hb=>?_) fun j hj=>?_
  ·subst hb
   rw[cond_false]
   refine jac hin ?_
   rw[show(X[n].1,((X[n].2.1.1,X[n].2.1.2),(X[n].2.2.1,X[n].2.2.2)))=X[n] from rfl,j0r t hw hh,Option.bind_some]
   have h0:=hs.un _ (List.getElem_mem hi)
   have hle:=jyi hT X[n]
   refine jaf (fun g=>absurd h0 g) fun _=>?_
   have hnn:0≤long:=by rw[hlong];omega
   refine jac (jan (by omega) (by omega)) (jac (jan (by omega) (by omega)) (hrec _ ⟨n+1,by simp,hi,?_,by simp only;omega⟩ (by simp only;omega)))
   simp only
   rw[jkx _ _ hi,List.map_append,List.sum_append,hlong]
   simp
  ·refine jac hin (jac hin (jcr (fun g=>by simp at g) fun _=>jaf (fun hpos=>?_) fun _=>hj _ rfl))
   have e1:((n:Int)-1).toNat=n-1:=by omega
   have hi1:n-1<X.length:=by omega
   have hg:X.getD ((n:Int)-1).toNat (0,((0,0),(0,0)))=X[n-1]:=by rw[e1,←jdv (d:=(0,((0,0),(0,0)))) hi1];rw[Int.toNat_natCast]
   rw[hg]
   have hin1:inb ((n:Int)-1) X.length=true:=jeg (by omega) (by omega)
   have hi64:jal ((n:Int)-1)=true:=jan (by omega) (by omega)
   have hng:=kgl hs.ng (n-1) (by omega)
   have en:n-1+1=n:=by omega
   simp only[en] at hng
   unfold ngo at hng
   simp only[Bool.not_eq_true',decide_eq_false_iff_not] at hng
   refine jac hi64 (jac hin1 (jac hin (jcr (fun g2=>?_) fun _=>hj _ rfl)))
   simp only[Bool.and_eq_true,decide_eq_true_eq] at g2
   refine jac hi64 (jac hin1 (jac hin (jaf (fun g3=>?_) fun _=>hj _ rfl)))
   refine jac hi64 (jac hin1 (jac hin (hj _ ?_)))
   rw[decide_eq_false_iff_not]
   exact fun g1=>hng ⟨g1,Prod.ext g2.1 g2.2,g3⟩
 ·have:n=X.length:=by simp only at hge;omega
  subst this
  rw[List.take_length,hs.sum] at hlong
  simp only
  rw[jyf t hw hh (by omega),Option.bind_some,hs.pat]
  refine jaf (fun _=>?_) fun g=>absurd rfl g
  refine jaf (fun _=>?_) fun g=>absurd rfl g
  refine jaf (fun _=>?_) fun g=>absurd hlong g
  simp only
  rw[jwi (by simp only;omega),Option.bind_some]
  refine jaf (fun _=>?_) fun g=>absurd rfl g
  exact jaf (fun _=>jfw) fun g=>absurd (by trivial) g
theorem kcy {a:Int×(Int×List Int)} (h1:0≤a.1) (h3:0≤a.2.1) (hk:∀k∈a.2.2,0≤k):
  ∃w h:Nat,(1≤w∧w≤4)∧(1≤h∧h≤4)∧∀T,Tab w h T→∃cr,PatOK T cr∧jez fuel a=some ((w:Int),((h:Int),cr)):=by
 refine⟨1+ (a.1%4).toNat,1+ (a.2.1%4).toNat,by omega,by omega,fun T t=>?_⟩
 suffices hs:Ret (jez fuel a) fun r=>∃A:List Int,(∀k∈A,0≤k∧k≤3)∧r=(((1+ (a.1%4).toNat:Nat):Int),(((1+ (a.2.1%4).toNat:Nat):Int),jlu (T.map (·.1)) A)) by
  obtain⟨r,hr,A,hA,rfl⟩:=hs
  exact⟨_,kdi t hA,hr⟩
 have ew:1+a.1%4=((1+ (a.1%4).toNat:Nat):Int):=by omega
 have eh:1+a.2.1%4=((1+ (a.2.1%4).toNat:Nat):Int):=by omega
 generalize hw:1+ (a.1%4).toNat=w at ew t ⊢
 generalize hh:1+ (a.2.1%4).toNat=h at eh t ⊢
 have bw:1≤w∧w≤6:=by omega
 have bh:1≤h∧h≤6:=by omega
 have hwh:w*h≤6*6:=Nat.mul_le_mul bw.2 bh.2
 have e6:6* (w:Int)* (h:Int)=((6* (w*h):Nat):Int):=by simp[Int.mul_assoc]
 unfold jez
 rw[ew,eh]
 refine jac (by simp only[Bool.and_eq_true,decide_eq_true_eq];omega) (jac (jan (by omega) (by omega)) (jac (jan (by omega) (by omega)) (jac (by simp only[Bool.and_eq_true,decide_eq_true_eq];omega) (jac (jan (by omega) (by omega)) (jac (jan (by omega) (by omega)) (jac (jan (by omega) (by omega)) (jac (by rw[e6];exact jan (by omega) (by omega)) (jac (by rw[e6];simp only[Bool.and_eq_true,decide_eq_true_eq];omega) ?_))))))))
 have hlen:(List.replicate (α:=Int) (6* (w:Int)* (h:Int)).toNat 0).length=6* (w*h):=by rw[List.length_replicate,e6,Int.toNat_natCast]
 have fin:∀A:List Int,A.length=6* (w*h)→(∀k∈A,0≤k∧k≤3)→Ret ((jfs fuel (((w:Int),(h:Int)),A)).bind fun r2=>some (r2.1,(r2.2.1,r2.2.2))) fun r=>∃A:List Int,(∀k∈A,0≤k∧k≤3)∧r=((w:Int),((h:Int),jlu (T.map (·.1)) A)):=fun A hA hA2=>by
  rw[kco t bw bh (by omega),Option.bind_some]
  exact jas ⟨A,hA2,rfl⟩
 refine ja7 (fun s:Int×(List Int×Option Nat)=>0≤s.1∧s.1≤6* (w*h)∧s.2.1.length=6* (w*h)∧∀k∈s.2.1,0≤k∧k≤3) (fun s=>6* (w*h)-s.1.toNat) ?_ fuel _ ⟨by omega,by omega,hlen,fun k hk=>by have:=(List.mem_replicate.1 hk).2;omega⟩ (by simp only[fuel];omega)
 rintro ⟨i,A,cp⟩ rec ⟨i0,i1,hA,hA2⟩ hrec
 simp only at i0 i1 hA hA2
 refine jaf (fun g1=>jaf (fun g2=>?_) fun _=>fin A hA hA2) fun _=>fin A hA hA2
 simp only at g1 g2
 have hi:i.toNat<a.2.2.length:=by omega
 have hge:0≤a.2.2.getD i.toNat 0:=by
  rw[List.getD_eq_getElem?_getD,List.getElem?_eq_getElem hi]
  exact hk _ (List.getElem_mem hi)
 refine jac (jeg i0 g2) (jac (by simp only[Bool.and_eq_true,decide_eq_true_eq];omega) (jac (jeg i0 g1) (jac (jan (by omega) (by omega)) (hrec _ ⟨by simp only;omega,by simp only;omega,by simp only[List.length_set];exact hA,fun k hk=>?_⟩ (by simp only;omega)))))
 simp only at hk
 rcases List.mem_or_eq_of_mem_set hk with hk | rfl
 ·exact hA2 k hk
 ·omega
end
theorem jwa (tab:∀w h:Nat,(1≤w∧w≤5)→(1≤h∧h≤5)→∃T,Tab w h T) {a:Int×(Int×List Int)} (h1:0≤a.1) (h3:0≤a.2.1) (hk:∀k∈a.2.2,0≤k):
  jct fuel a=some true:=by
 obtain⟨w,h,hw,hh,H⟩:=kcy h1 h3 hk
 obtain⟨T,t⟩:=tab w h (by omega) (by omega)
 obtain⟨cr,ho,ha⟩:=H T t
 exact kky t (by omega) (by omega) ho ha
end X
end Go.Vm
namespace Go.Vm
namespace X
open W Go.RowKit Go.Proofs.Un
def fl (k:Int):Int:=if k=1 then 2 else if k=2 then 1 else k
theorem kog {a b:Int}:fl a=fl b↔a=b:=by
 unfold fl
 split<;>split<;>(try split)<;>(try split)<;>omega
theorem krz {k:Int}:fl k=0↔k=0:=by
 unfold fl
 split<;>(try split)<;>omega
theorem kry {k:Int} (h:1≤k∧k≤3):1≤fl k∧fl k≤3:=by
 unfold fl
 split<;>(try split)<;>omega
def flS (e:SgT):SgT:=(fl e.1,e.2)
def flC (c:jc1):jc1:=(c.1,(c.2.1,fl c.2.2))
theorem kbq {c e:SgT}:goes (flS c) (flS e)↔goes c e:=by
 unfold goes flS
 simp only[kog]
theorem kg4 (out:List SgT) (cur:Option SgT) (e:SgT):stepG (out.map flS,cur.map flS) (flS e)=((stepG (out,cur) e).1.map flS,(stepG (out,cur) e).2.map flS):=by
 have h0:(flS e).1≠0↔e.1≠0:=not_congr krz
 cases cur with
 | none=>
   by_cases g:e.1≠0
   ·rw[Option.map_none,jrh (h0.2 g),jrh g];rfl
   ·have g:e.1=0:=Classical.not_not.1 g
    rw[Option.map_none,j37 (krz.2 g),j37 g];rfl
 | some c=>
   rw[Option.map_some]
   by_cases g:e.1≠0
   ·by_cases q:goes c e
    ·rw[jqc (h0.2 g) (kbq.2 q),jqc g q];rfl
    ·rw[jtr (h0.2 g) (fun h=>q (kbq.1 h)),jtr g q]
     simp
   ·have g:e.1=0:=Classical.not_not.1 g
    rw[j36 (krz.2 g),j36 g]
    simp
theorem kfu:∀(l:List SgT) (out:List SgT) (cur:Option SgT),jjw (out.map flS,cur.map flS) (l.map flS)=(jjw (out,cur) l).map flS
 | [],out,cur=>by cases cur<;>simp[jjw]
 | e::l,out,cur=>by
   have e1:jjw (out.map flS,cur.map flS) ((e::l).map flS)=jjw (stepG (out.map flS,cur.map flS) (flS e)) (l.map flS):=rfl
   have e2:jjw (out,cur) (e::l)=jjw (stepG (out,cur) e) l:=rfl
   rw[e1,e2,kg4]
   exact kfu l _ _
theorem kkq (T:List LiT) (w h:Nat) (K K2:UnT→Int) (hK:∀u,K2 u=fl (K u)):j3s T w h K2=(j3s T w h K).map flS:=by
 have e:kW K2 (jlv T w h)=(kW K (jlv T w h)).map flS:=by
  unfold kW
  rw[List.map_map]
  refine List.map_congr_left fun x _=>?_
  simp only[Function.comp_apply,flS,hK]
 unfold j3s
 rw[e]
 exact kfu _ [] none
theorem kh0 (cr:List jc1) (u:UnT):jau (cr.map flC) u=fl (jau cr u):=by
 unfold jau
 rw[List.find?_map]
 have e:(isU u∘flC)=isU u:=rfl
 rw[e]
 cases cr.find? (isU u)<;>rfl
section
variable {w h:Nat} {T:List LiT}
theorem krx {cr:List jc1} (ho:PatOK T cr):PatOK T (cr.map flC):=by
 have e:(cr.map flC).map jbk=cr.map jbk:=by
  rw[List.map_map]
  rfl
 refine⟨⟨by rw[e];exact ho.ok.nd,fun c hc=>?_,fun c hc=>?_⟩,by rw[e];exact ho.pw⟩
 ·obtain⟨d,hd,rfl⟩:=List.mem_map.1 hc
  exact ho.ok.sub d hd
 ·obtain⟨d,hd,rfl⟩:=List.mem_map.1 hc
  exact kry (ho.ok.k1 d hd)
theorem ke4 (cr:List jc1) (z:jc1):List.take 0 (List.replicate (α:=jc1) cr.length z)++(List.take (min cr.length (List.replicate (α:=jc1) cr.length z).length) cr++List.drop (0+ (min cr.length (List.replicate (α:=jc1) cr.length z).length)) (List.replicate (α:=jc1) cr.length z))=cr:=by
 have e:min cr.length (List.replicate (α:=jc1) cr.length z).length=cr.length:=by rw[List.length_replicate,Nat.min_self]
 rw[e,List.take_zero,List.nil_append,List.take_length,Nat.zero_add,List.drop_of_length_le (by rw[List.length_replicate];exact Nat.le_refl _),List.append_nil]
theorem j5t (t:Tab w h T) (hw:1≤w∧w≤6) (hh:1≤h∧h≤6) {cr:List jc1} (ho:PatOK T cr):jdf fuel ((w:Int),((h:Int),cr))=some (((w:Int),((h:Int),cr.map flC)),0):=by
 have hcl:=ho.ok.len t hw.2 hh.2
 apply Ret.eq
 unfold jdf
 rw[show(((w:Int),((h:Int),cr)).1,(((w:Int),((h:Int),cr)).2.1,((w:Int),((h:Int),cr)).2.2))=((w:Int),((h:Int),cr)) from rfl,jwj t hw hh (by omega) (fun c hc=>(jnt t hw hh (ho.ok.sub c hc)).2.2.1),kge ho,Option.bind_some]
 refine jaf (fun g=>absurd rfl g) fun _=>?_
 refine jac (by simp only[Bool.and_eq_true,decide_eq_true_eq];omega) ?_
 refine jac ?_ ?_
 ·cases cr with
  | nil=>rfl
  | cons c r=>
    simp only[List.length_replicate,List.length_cons,Bool.or_eq_true,Bool.and_eq_true,Nat.ble_eq]
    exact .inl ⟨by omega,by omega⟩
 have ec:=ke4 cr (0,(0,0))
 simp only
 rw[ec]
 refine ja7 (fun s:Int×(List jc1×Option Nat)=>∃i:Nat,s.1=(i:Int)∧i≤cr.length∧s.2.1=(cr.take i).map flC++cr.drop i∧s.2.2=some cr.length) (fun s=>cr.length-s.1.toNat) ?_ fuel (0,(cr,some cr.length)) ⟨0,rfl,by omega,by simp,rfl⟩ (by simp only[fuel];omega)
 rintro ⟨i',A,cp⟩ rec ⟨i,hi',hil,hA,hcp⟩ hrec
 simp only at hi' hA hcp
 subst hi' hcp
 have hAl:A.length=cr.length:=by rw[hA];simp;omega
 refine jaf (fun hlt=>?_) fun hge=>?_
 ·have hi:i<cr.length:=by simp only at hlt;omega
  have hin:inb (i:Int) A.length=true:=jeg (by omega) (by rw[hAl];omega)
  have hA2:A=(cr.take i).map flC++cr[i]::cr.drop (i+1):=by rw[hA,jgm hi]
  have hl:((cr.take i).map flC).length=i:=by simp;omega
  have hg:A.getD ((i:Int).toNat) (0,(0,0))=cr[i]:=by
   rw[Int.toNat_natCast,hA2,List.getD_eq_getElem?_getD,List.getElem?_append_right (by rw[hl];exact Nat.le_refl _),hl,Nat.sub_self]
   rfl
  simp only
  rw[hg]
  have hk:=ho.ok.k1 _ (List.getElem_mem hi)
  have hf:([0,2,1,3]:List Int).getD (cr[i].2.2:Int).toNat 0=fl cr[i].2.2:=by
   rcases(by omega:cr[i].2.2=1∨cr[i].2.2=2∨cr[i].2.2=3) with e | e | e<;>(rw[e];rfl)
  rw[hf]
  refine jac hin (jac (jeg (by omega) (by omega)) (jac hin (jac (jan (by omega) (by omega)) (hrec _ ⟨i+1,by simp,hi,?_,rfl⟩ (by simp only;omega)))))
  simp only
  rw[Int.toNat_natCast,hA2,List.set_append_right _ _ (by rw[hl];exact Nat.le_refl _),hl,Nat.sub_self,List.set_cons_zero,jkx _ _ hi,List.map_append,List.map_singleton,List.append_assoc]
  rfl
 ·have:i=cr.length:=by simp only at hge;omega
  subst this
  rw[List.take_length,List.drop_length,List.append_nil] at hA
  refine jac (by simp only[jl0];rw[hAl];simp) (jas ?_)
  simp only
  rw[hA]
theorem j7y (t:Tab w h T) (hw:1≤w∧w≤6) (hh:1≤h∧h≤6) {cr:List jc1} (ho:PatOK T cr) {a:Int×(Int×List Int)} (ha:jez fuel a=some ((w:Int),((h:Int),cr))):jbt fuel a=some true:=by
 have hs:=kft t hw hh ho
 apply Ret.eq
 unfold jbt
 rw[show(a.1,(a.2.1,a.2.2))=a from rfl,ha,Option.bind_some]
 simp only
 rw[kpk t hw hh ho,Option.bind_some,j5t t hw hh ho,Option.bind_some]
 simp only
 rw[kpk t hw hh (krx ho),Option.bind_some,kkq T w h (jau cr) (jau (cr.map flC)) (kh0 cr)]
 generalize j3s T w h (jau cr)=X at hs ⊢
 have hX:=hs.len
 have hl:(X.map flS).length=X.length:=List.length_map ..
 refine jaf (fun g=>absurd (by trivial) g) fun _=>jaf (fun g=>absurd (by trivial) g) fun _=>jaf (fun g=>absurd (by trivial) g) fun _=>jaf (fun g=>absurd (by simp) g) fun _=>?_
 refine ja7 (fun i:Int=>0≤i∧i≤X.length) (fun i=>X.length-i.toNat) ?_ fuel 0 ⟨by omega,by omega⟩ (by simp only[fuel];omega)
 rintro i' rec ⟨i0,i1⟩ hrec
 obtain⟨i,rfl⟩:∃i:Nat,i'=(i:Int):=⟨i'.toNat,by omega⟩
 refine jaf (fun hlt=>?_) fun _=>jfw
 have hlt:(i:Int)< (X.length:Int):=hlt
 have hi:i<X.length:=by omega
 have hO:ji9 fuel X[i].1=some (fl X[i].1):=by
  unfold ji9 fl
  by_cases h1:X[i].1=1
  ·simp[h1]
  ·by_cases h2:X[i].1=2
   ·simp[h2]
   ·simp[h1,h2]
 have hg2:(X.map flS).getD ((i:Int).toNat) (0,((0,0),(0,0)))=flS X[i]:=by
  rw[jdv (by rw[hl];exact hi),List.getElem_map]
 simp only
 rw[jdv hi,hg2,hO,Option.bind_some]
 refine jac (jeg i0 hlt) (jac (jeg i0 (by rw[hl];exact hlt)) (jcr (fun g=>by simp[flS] at g) fun _=>?_))
 exact jac (jan (by omega) (by omega)) (hrec _ ⟨by omega,by omega⟩ (by omega))
end
theorem jpq (tab:∀w h:Nat,(1≤w∧w≤5)→(1≤h∧h≤5)→∃T,Tab w h T) {a:Int×(Int×List Int)} (h1:0≤a.1) (h3:0≤a.2.1) (hk:∀k∈a.2.2,0≤k):
  jbt fuel a=some true:=by
 obtain⟨w,h,hw,hh,H⟩:=kcy h1 h3 hk
 obtain⟨T,t⟩:=tab w h (by omega) (by omega)
 obtain⟨cr,ho,ha⟩:=H T t
 exact j7y t (by omega) (by omega) ho ha
end X
end Go.Vm
namespace Go.Vm
namespace X
open W Go.RowKit Go.Proofs.Un
theorem kfb (s:Int×Int):ja8 fuel s=some 1∧1≤s.1∧1≤s.2∨ja8 fuel s=some 0∧jao fuel s=some 1:=by
 by_cases h1:s.1<1
 ·exact .inr ⟨by unfold ja8;simp only[h1,decide_true,cond_true],by unfold jao;simp only[h1,decide_true,cond_true]⟩
 by_cases h2:s.2<1
 ·exact .inr ⟨by unfold ja8;simp only[h1,h2,decide_true,decide_false,cond_true,cond_false],by unfold jao;simp only[h1,h2,decide_true,decide_false,cond_true,cond_false]⟩
 by_cases h3:256<s.1
 ·exact .inr ⟨by unfold ja8;simp only[h1,h2,h3,decide_true,decide_false,cond_true,cond_false],by unfold jao;simp only[h1,h2,h3,decide_true,decide_false,cond_true,cond_false]⟩
 by_cases h4:256<s.2
 ·exact .inr ⟨by unfold ja8;simp only[h1,h2,h3,h4,decide_true,decide_false,cond_true,cond_false],by unfold jao;simp only[h1,h2,h3,h4,decide_true,decide_false,cond_true,cond_false]⟩
 have hb:jal (s.1*s.2)=true:=by
  obtain⟨x,hx⟩:∃x:Nat,s.1=(x:Int):=⟨s.1.toNat,by omega⟩
  obtain⟨y,hy⟩:∃y:Nat,s.2=(y:Int):=⟨s.2.toNat,by omega⟩
  have hxy:x*y≤256*256:=Nat.mul_le_mul (by omega) (by omega)
  have e:s.1*s.2=((x*y:Nat):Int):=by rw[hx,hy];simp
  rw[e]
  exact jan (by omega) (by omega)
 by_cases h5:256<s.1*s.2
 ·exact .inr ⟨by unfold ja8;simp only[h1,h2,h3,h4,decide_false,cond_false];rw[hb];simp only[chk,h5,decide_true,cond_true],by unfold jao;simp only[h1,h2,h3,h4,decide_false,cond_false];rw[hb];simp only[chk,h5,decide_true,cond_true]⟩
 ·exact .inl ⟨by unfold ja8;simp only[h1,h2,h3,h4,decide_false,cond_false];rw[hb];simp only[chk,h5,decide_false,cond_true,cond_false],by omega,by omega⟩
theorem jpr (tab:∀w h:Nat,(1≤w∧w≤5)→(1≤h∧h≤5)→∃T,Tab w h T) {p:kcx} {x:SgT} (hu:∀c∈p.2.2,0≤c.2.1):jcc fuel (p,x)=some true:=by
 obtain⟨W,H,cr⟩:=p
 apply Ret.eq
 unfold jcc
 simp only
 refine jnh (fun b=>b=true∨cr.length≤20∧(ja8 fuel (W,H)=some 0∧jao fuel (W,H)=some 1∨ja8 fuel (W,H)=some 1∧1≤W∧W≤5∧1≤H∧H≤5)) (fun b hb=>?_) fun j hj=>?_
 rotate_left
 ·refine jaf (fun _=>hj _ (.inl rfl)) fun hl=>?_
  rcases kfb (W,H) with⟨hv,hw,hh⟩ | ⟨hv,hc⟩
  ·rw[hv,Option.bind_some]
   refine jaf (fun _=>jaf (fun _=>hj _ (.inl rfl)) fun hW=>?_) fun g=>absurd rfl g
   by_cases hH:5<H
   ·exact hj _ (.inl (by simp[hH]))
   ·exact hj _ (.inr ⟨by omega,.inr ⟨hv,hw,by omega,hh,by omega⟩⟩)
  ·rw[hv,Option.bind_some]
   refine jaf (fun g=>absurd g (by decide)) fun _=>hj _ (.inr ⟨by omega,.inl ⟨hv,hc⟩⟩)
 refine jcr (fun _=>jas rfl) fun hbf=>?_
 rcases hb with hb | ⟨hl,hb⟩
 ·rw[hb] at hbf;cases hbf
 rcases hb with⟨hv,hc⟩ | ⟨hv,hw,hw5,hh,hh5⟩
 ·have e1:jb3 fuel (W,(H,cr))=some 1:=by
   unfold jb3
   simp only
   rw[hc,Option.bind_some]
   rfl
  have e2:jbo fuel (W,(H,cr))=some ([],1):=by
   unfold jbo
   simp only
   rw[e1,Option.bind_some]
   rfl
  have e3:jfp fuel (W,(H,cr))=some 1:=by
   unfold jfp
   simp only
   rw[hv,Option.bind_some]
   rfl
  have e4:∀y,ja9 fuel ((W,H),y)=some ([],1):=fun y=>by
   unfold ja9
   simp only
   rw[hc,Option.bind_some]
   rfl
  have e5:∀y,jba fuel ((W,H),y)=some ((0,(0,[])),(0,1)):=fun y=>by
   unfold jba
   simp only
   rw[hc,Option.bind_some]
   rfl
  have e6:∀y,jbm fuel ((W,H),y)=some 1:=fun y=>by
   unfold jbm
   simp only
   rw[e4,Option.bind_some]
  rw[e2,Option.bind_some,e3,Option.bind_some]
  refine jnh (fun b=>b=false) (fun b hb=>?_) fun j hj=>?_
  ·subst hb
   rw[cond_false,hv,Option.bind_some]
   refine jaf (fun g=>absurd g (by decide)) fun _=>?_
   rw[e4,Option.bind_some,e5,Option.bind_some]
   refine jaf (fun _=>jaf (fun _=>jaf (fun _=>?_) fun g=>absurd (by trivial) g) fun g=>absurd (by trivial) g) fun g=>absurd (by trivial) g
   rw[e6,Option.bind_some]
   exact jaf (fun _=>jfw) fun g=>absurd rfl g
  ·exact jaf (fun g=>absurd rfl g) fun _=>jaf (fun _=>hj _ (by simp)) fun g=>absurd (by decide) g
 ·obtain⟨w,rfl⟩:∃w:Nat,W=(w:Int):=⟨W.toNat,by omega⟩
  obtain⟨h,rfl⟩:∃h:Nat,H=(h:Int):=⟨H.toNat,by omega⟩
  obtain⟨T,t⟩:=tab w h (by omega) (by omega)
  have bw:1≤w∧w≤6:=by omega
  have bh:1≤h∧h≤6:=by omega
  have e1:=jwj t bw bh (cr:=cr) (by omega) hu
  have e3:=j1l t bw bh (cr:=cr) (by omega)
  have e2:∃X,jbo fuel ((w:Int),((h:Int),cr))=some (X,j67 T cr)∧(j67 T cr≠0→X=[]):=by
   by_cases h0:j67 T cr=0
   ·refine⟨j3s T w h (jau cr),?_,fun g=>absurd h0 g⟩
    rw[h0]
    exact kpk t bw bh (ki1 h0)
   ·refine⟨[],?_,fun _=>rfl⟩
    unfold jbo
    simp only
    rw[e1,Option.bind_some]
    simp only[h0,ne_eq,not_false_eq_true,decide_true,cond_true]
  obtain⟨X,e2,eX⟩:=e2
  rw[e2,Option.bind_some,e3,Option.bind_some]
  refine jnh (fun b=>b=false) (fun b hb=>?_) fun j hj=>?_
  ·subst hb
   rw[cond_false,hv,Option.bind_some]
   exact jaf (fun _=>jfw) fun g=>absurd rfl g
  ·refine jaf (fun g=>absurd rfl g) fun _=>jaf (fun g=>hj _ ?_) fun _=>hj _ rfl
   rw[eX g]
   simp
end X
end Go.Vm
namespace Go.Vm
namespace X
open W
def j39 (c:UInt8):List UInt8→List (List UInt8)
 | []=>[[]]
 | b::l=>if b=c then []::j39 c l else match j39 c l with
   | w::ws=>(b::w)::ws
   | []=>[[b]]
theorem kej {b c:UInt8} {l:List UInt8} (h:b≠c):Lib.index (b::l) [c]=if Lib.index l [c]== -1 then -1 else Lib.index l [c] +1:=by
 rw[Lib.index]
 have:([c]:List UInt8).isPrefixOf (b::l)=false:=by simp[List.isPrefixOf];exact fun e=>h e.symm
 rw[this];simp
theorem j8l {c:UInt8} {l:List UInt8}:Lib.index (c::l) [c]=0:=by
 rw[Lib.index]
 simp[List.isPrefixOf]
theorem j93 {b c:UInt8} {l:List UInt8} (h:b≠c):∀k,∃w ws,Lib.splitK [c] 0 k l=w::ws∧Lib.splitK [c] 0 k (b::l)=(b::w)::ws
 | 0=>⟨l,[],rfl,rfl⟩
 | k+1=>by
   unfold Lib.splitK
   rw[kej h]
   by_cases h1:Lib.index l [c]= -1
   ·simp only[h1]
    exact⟨l,[],by simp,by simp⟩
   ·have hge:=Lib.index_ge l [c]
    have e1:(Lib.index l [c]== -1)=false:=by simpa using h1
    have e2:(Lib.index l [c] +1== -1)=false:=by simp;omega
    simp only[e1,e2,Bool.false_eq_true,if_false]
    obtain⟨j,hj⟩:=Int.eq_ofNat_of_zero_le (show 0≤Lib.index l [c] by omega)
    rw[hj]
    refine⟨_,_,rfl,?_⟩
    have e3:((j:Int)+1).toNat=j+1:=by omega
    simp only[e3,Int.toNat_natCast,Nat.add_zero,List.take_succ_cons,List.length_singleton,List.drop_succ_cons]
theorem juf (c:UInt8):∀s:List UInt8,Lib.split s [c]=j39 c s
 | []=>by
   unfold Lib.split
   rw[Lib.count_one]
   rfl
 | b::l=>by
   have ih:=juf c l
   unfold Lib.split at ih ⊢
   by_cases h:b=c
   ·subst h
    rw[Lib.count_cons_eq,Nat.add_comm]
    unfold Lib.splitK
    rw[j8l]
    simp only[j39,if_true]
    rw[←ih]
    simp
   ·rw[Lib.count_cons_ne _ _ _ h]
    obtain⟨w,ws,e1,e2⟩:=j93 h (Lib.count l [c])
    rw[e2]
    simp only[j39,h,if_false]
    rw[←ih,e1]
theorem j38 {c:UInt8} {r:List UInt8} {v:List UInt8} {vs:List (List UInt8)} (hr:j39 c r=v::vs):∀ {w:List UInt8},c∉w→j39 c (w++r)=(w++v)::vs
 | [],_=>hr
 | b::w,h=>by
   have hb:b≠c:=fun e=>h (by rw[e];exact List.mem_cons_self ..)
   rw[List.cons_append]
   unfold j39
   rw[if_neg hb,j38 hr (fun hm=>h (List.mem_cons_of_mem _ hm))]
   rfl
theorem j56 {c:UInt8}:∀ {w:List UInt8} {ws:List (List UInt8)},(∀x∈w::ws,c∉x)→j39 c (Lib.join (w::ws) [c])=w::ws
 | w,[],h=>by
   rw[Lib.join_one]
   have:=j38 (c:=c) (r:=[]) (v:=[]) (vs:=[]) rfl (h w (List.mem_cons_self ..))
   simpa using this
 | w,w'::ws,h=>by
   have ih:=j56 (c:=c) (w:=w') (ws:=ws) fun x hx=>h x (List.mem_cons_of_mem _ hx)
   have e:Lib.join (w::w'::ws) [c]=w++(c::Lib.join (w'::ws) [c]):=by
    rw[Lib.join_cons,Lib.join_cons]
    simp[Lib.joinTail]
   rw[e]
   have:=j38 (c:=c) (r:=c::Lib.join (w'::ws) [c]) (v:=[]) (vs:=j39 c (Lib.join (w'::ws) [c])) (by rw[j39,if_pos rfl]) (h w (List.mem_cons_self ..))
   rw[this,ih];simp
theorem j30 {w:List Nat} (h:∀x∈w,x<256):(u8 w).map UInt8.toNat=w:=by
 unfold u8
 rw[List.map_map]
 conv=>rhs;rw[←List.map_id w]
 refine List.map_congr_left fun x hx=>?_
 have:=h x hx
 simp[Function.comp,UInt8.toNat_ofNat,Nat.mod_eq_of_lt this]
theorem ki6 (w:List UInt8):u8 (w.map UInt8.toNat)=w:=by
 unfold u8
 rw[List.map_map]
 conv=>rhs;rw[←List.map_id w]
 exact List.map_congr_left fun x hx=>by simp[Function.comp]
theorem j8k {w:List Nat} {ws:List (List Nat)} (h:∀x∈w::ws,(∀y∈x,y<256∧y≠32)):jdm (j18 (w::ws) [32]) [32]=w::ws:=by
 unfold j18 jdm
 rw[ki6,show u8 [32]=[32] from rfl,juf,List.map_cons,j56,←List.map_cons (f:=u8),List.map_map]
 ·conv=>rhs;rw[←List.map_id (w::ws)]
  exact List.map_congr_left fun x hx=>j30 fun y hy=>(h x hx y hy).1
 ·intro x hx hm
  rw[←List.map_cons] at hx
  obtain⟨x',hx',rfl⟩:=List.mem_map.1 hx
  obtain⟨y,hy,e⟩:=List.mem_map.1 hm
  have:=h x' hx' y hy
  have e2:y=32:=by
   have:=congrArg UInt8.toNat e
   simpa[UInt8.toNat_ofNat,Nat.mod_eq_of_lt (h x' hx' y hy).1] using this
  exact this.2 e2
theorem j57 {c:UInt8}:∀s:List UInt8,(j39 c s).length≤s.length+1∧∀w∈j39 c s,w.length≤s.length
 | []=>by simp[j39]
 | b::l=>by
   obtain⟨h1,h2⟩:=j57 (c:=c) l
   unfold j39
   split
   ·refine⟨by simp;omega,fun w hw=>?_⟩
    rcases List.mem_cons.1 hw with rfl | hw
    ·simp
    ·have:=h2 w hw;simp;omega
   ·split
    ·rename_i w ws e
     rw[e] at h1 h2
     refine⟨by simp at h1 ⊢;omega,fun x hx=>?_⟩
     rcases List.mem_cons.1 hx with rfl | hx
     ·have:=h2 w (List.mem_cons_self ..);simpa using this
     ·have:=h2 x (List.mem_cons_of_mem _ hx);simp;omega
    ·refine⟨by simp,fun x hx=>?_⟩
     rw[List.mem_singleton.1 hx];simp
theorem j9f (s:List Nat):(jdm s [32]).length≤s.length+1∧∀w∈jdm s [32],w.length≤s.length:=by
 obtain⟨h1,h2⟩:=j57 (c:=32) (u8 s)
 unfold jdm
 rw[show u8 [32]=[32] from rfl,juf]
 refine⟨by simpa[u8] using h1,fun w hw=>?_⟩
 obtain⟨w',hw',rfl⟩:=List.mem_map.1 hw
 simpa[u8] using h2 w' hw'
end X
end Go.Vm
namespace Go.Vm
namespace X
open W Go.RowKit
theorem kbz:∀ {a b:List Nat},kpg a b=true→a=b
 | [],[],_=>rfl
 | [],b::m,h=>by cases h
 | a::l,[],h=>by cases h
 | a::l,b::m,h=>by
   simp only[kpg,Bool.and_eq_true] at h
   rw[Nat.eq_of_beq_eq_true h.1,kbz h.2]
def nm (n:Int):List Nat:=(jcy fuel n).getD []
structure NumOK (n:Int):Prop where
 it:jcy fuel n=some (nm n)
 de:jdr fuel n=some (nm n)
 at':jdl fuel (nm n)=some (n,true)
 ch:∀y∈nm n,45≤y∧y≤57
 ne:1≤(nm n).length
 le:(nm n).length≤5
 l1:Go.Proofs.S07.lpFin (120::32::nm n)=(1,n)
 l2:Go.Proofs.S07.lpFin (121::32::nm n)=(2,n)
 l3:Go.Proofs.S07.lpFin (117::32::nm n)=(3,n)
 l4:Go.Proofs.S07.lpFin (100::32::nm n)=(4,n)
theorem jzj {k:Int} {b:Nat} {n:Int} {s:List Nat} (h:kjv k b n s=true):Go.Proofs.S07.lpFin (b::32::s)=(k,n):=by
 unfold kjv at h
 split at h
 rename_i a c e
 simp only[Bool.and_eq_true,jna,decide_eq_true_eq] at h
 rw[e,h.1,h.2]
theorem jhr {n:Int} (h1: -4096≤n) (h2:n≤4096):NumOK n:=by
 have h:=kho h1 h2
 unfold okN at h
 cases hs:jcy fuel n with
 | none=>rw[hs] at h;cases h
 | some s=>
   have en:nm n=s:=by unfold nm;rw[hs];rfl
   rw[hs] at h
   simp only[Bool.and_eq_true] at h
   obtain⟨⟨⟨⟨⟨⟨a1,a2⟩,a3⟩,a4⟩,a5⟩,a6⟩,a7⟩:=h
   unfold koc at a3
   simp only[Bool.and_eq_true,List.all_eq_true,jae,decide_eq_true_eq] at a3
   obtain⟨⟨b1,b2⟩,b3⟩:=a3
   refine⟨by rw[en];exact hs,?_,?_,fun y hy=>?_,by rw[en];exact b2,by rw[en];exact b3,by rw[en];exact jzj a4,by rw[en];exact jzj a5,by rw[en];exact jzj a6,by rw[en];exact jzj a7⟩
   ·rw[en]
    cases hd:jdr fuel n with
    | none=>rw[hd] at a1;cases a1
    | some t=>rw[hd] at a1;rw[kbz a1]
   ·rw[en]
    cases hd:jdl fuel s with
    | none=>rw[hd] at a2;cases a2
    | some r=>
      obtain⟨a,b⟩:=r
      rw[hd] at a2
      simp only[Bool.and_eq_true,jna,decide_eq_true_eq] at a2
      rw[a2.1,a2.2]
   ·rw[en] at hy
    have:=b1 y hy
    omega
def VL (l:Int×Int):Prop:=1≤l.1∧l.1≤4∧ -4096≤l.2∧l.2≤4096
def ltr (k:Int):Nat:=([32,120,121,117,100]:List Nat).getD k.toNat 0
def lnT (l:Int×Int):List Nat:=ltr l.1::32::nm l.2
theorem kj4 {k:Int} (h:0≤k) (h2:k≤254):IntKind.u8.wrap (k+1)=k+1:=by
 unfold IntKind.wrap
 simp[IntKind.bits,IntKind.signed]
 omega
abbrev j9c:=Int×((Int×Int)×(Int×Int))
structure OrdPT (x:j9c):Prop where
 k1:1≤x.1
 k3:x.1≤3
 l1:1≤x.2.1.1
 l4:x.2.1.1≤4
 c0: -4096≤x.2.1.2
 c1:x.2.1.2≤4096
 ft:x.2.2.1<x.2.2.2
theorem jm5 (l:Int×Int):jc5 fuel l=some 0∧(1≤l.1∧l.1≤4∧ -4096≤l.2∧l.2≤4096)∨jc5 fuel l=some 1∧¬(1≤l.1∧l.1≤4∧ -4096≤l.2∧l.2≤4096):=by
 unfold jc5
 by_cases h1:l.1<1
 ·simp only[h1,decide_true,cond_true];exact .inr ⟨trivial,by omega⟩
 by_cases h2:4<l.1
 ·simp only[h1,h2,decide_true,decide_false,cond_true,cond_false];exact .inr ⟨trivial,by omega⟩
 by_cases h3:l.2 < -4096
 ·simp only[h1,h2,h3,decide_true,decide_false,cond_true,cond_false];exact .inr ⟨trivial,by omega⟩
 by_cases h4:4096<l.2
 ·simp only[h1,h2,h3,h4,decide_true,decide_false,cond_true,cond_false];exact .inr ⟨trivial,by omega⟩
 simp only[h1,h2,h3,h4,decide_false,cond_false]
 exact .inl ⟨trivial,by omega⟩
theorem j1s (x:j9c):∃b,jbg fuel x=some b∧(b=true↔OrdPT x):=by
 unfold jbg
 by_cases h1:1≤x.1
 rotate_left
 ·simp only[h1,decide_false,cond_false];exact⟨_,rfl,by simp;intro h;exact h1 h.k1⟩
 by_cases h2:x.1≤3
 rotate_left
 ·simp only[h1,h2,decide_true,decide_false,cond_true,cond_false];exact⟨_,rfl,by simp;intro h;exact h2 h.k3⟩
 simp only[h1,h2,decide_true,cond_true]
 rcases jm5 (x.2.1.1,x.2.1.2) with⟨e,g⟩ | ⟨e,g⟩
 ·rw[e,Option.bind_some]
  simp only[decide_true,cond_true]
  simp only at g
  exact⟨_,rfl,by simp only[decide_eq_true_eq];exact⟨fun h=>⟨h1,h2,g.1,g.2.1,g.2.2.1,g.2.2.2,h⟩,fun h=>h.ft⟩⟩
 ·rw[e,Option.bind_some]
  simp only[show((1:Int)=0)=False by simp,decide_false,cond_false]
  exact⟨_,rfl,by simp;intro h;exact g ⟨h.l1,h.l4,h.c0,h.c1⟩⟩
theorem jyq (l:Int×Int):ja4 fuel l=some 1∧(1≤l.1∧l.1≤4∧ -4096≤l.2∧l.2≤4096)∨ja4 fuel l=some 0∧¬(1≤l.1∧l.1≤4∧ -4096≤l.2∧l.2≤4096):=by
 by_cases h1:1≤l.1
 rotate_left
 ·exact .inr ⟨by unfold ja4;simp only[h1,decide_false,cond_false],by omega⟩
 by_cases h2:l.1≤4
 rotate_left
 ·exact .inr ⟨by unfold ja4;simp only[h1,h2,decide_true,decide_false,cond_true,cond_false],by omega⟩
 by_cases h3: -4096≤l.2
 rotate_left
 ·exact .inr ⟨by unfold ja4;simp only[h1,h2,h3,decide_true,decide_false,cond_true,cond_false],by omega⟩
 by_cases h4:l.2≤4096
 rotate_left
 ·exact .inr ⟨by unfold ja4;simp only[h1,h2,h3,h4,decide_true,decide_false,cond_true,cond_false],by omega⟩
 exact .inl ⟨by unfold ja4;simp only[h1,h2,h3,h4,decide_true,cond_true],by omega⟩
theorem jk4 (l:Int×Int):VL l∧jdg fuel l=some (lnT l)∨¬VL l∧jdg fuel l=some []:=by
 rcases jm5 l with⟨e,h⟩ | ⟨e,h⟩
 ·left
  refine⟨h,?_⟩
  obtain⟨h1,h2,h3,h4⟩:=h
  have hn:=jhr h3 h4
  have hle:=hn.le
  unfold jdg
  rw[show((l.1,l.2):Int×Int)=l from rfl,e,Option.bind_some]
  have hw:=kj4 (k:=l.1) (by omega) (by omega)
  rw[hw,hn.it,Option.bind_some]
  have hk:l.1=1∨l.1=2∨l.1=3∨l.1=4:=by omega
  unfold lnT ltr
  generalize nm l.2=s at hle
  rcases hk with e | e | e | e<;>(rw[e];simp[chk,bnb,Bool.cond_decide];try omega)
 ·right
  refine⟨h,?_⟩
  unfold jdg
  rw[show((l.1,l.2):Int×Int)=l from rfl,e,Option.bind_some]
  rfl
theorem j4e {l:Int×Int} (h:VL l):jki fuel l=some (lnT l):=by
 obtain⟨h1,h2,h3,h4⟩:=h
 have hn:=jhr h3 h4
 have hle:=hn.le
 unfold jki
 rw[hn.de,Option.bind_some]
 have hk:l.1=1∨l.1=2∨l.1=3∨l.1=4:=by omega
 unfold lnT ltr
 generalize nm l.2=s at hle
 rcases hk with e | e | e | e<;>(rw[e];simp[chk,inb,Bool.cond_decide];try omega)
end X
end Go.Vm
namespace Go.Vm
namespace X
open W Go.RowKit
def kLt (k:Int):Nat:=([32,109,118,97]:List Nat).getD k.toNat 0
def sgT (x:j9c):List Nat:=((((([kLt x.1]++[32])++lnT x.2.1)++[32])++nm x.2.2.1)++[32])++nm x.2.2.2
structure OkX (x:j9c):Prop where
 o:OrdPT x
 f0: -4096≤x.2.2.1
 t1:x.2.2.2≤4096
theorem j4v {l:Int×Int} (h:VL l):(lnT l).length≤7:=by
 have:=(jhr h.2.2.1 h.2.2.2).le
 unfold lnT
 simp only[List.length_cons]
 omega
theorem OkX.vl {x:j9c} (h:OkX x):VL x.2.1:=⟨h.o.l1,h.o.l4,h.o.c0,h.o.c1⟩
theorem ji8 (x:j9c):OkX x∧ja0 fuel x=some (sgT x)∨¬OkX x∧ja0 fuel x=some []:=by
 obtain⟨b,hb,hb2⟩:=j1s x
 by_cases ho:OrdPT x
 rotate_left
 ·refine .inr ⟨fun h=>ho h.o,?_⟩
  unfold ja0
  rw[show(x.1,((x.2.1.1,x.2.1.2),(x.2.2.1,x.2.2.2)))=x from rfl,hb,Option.bind_some]
  cases b with
  | true=>exact absurd (hb2.1 rfl) ho
  | false=>rfl
 have eb:b=true:=hb2.2 ho
 subst eb
 by_cases h1:x.2.2.1 < -4096
 ·refine .inr ⟨fun h=>by have:=h.f0;omega,?_⟩
  unfold ja0
  rw[show(x.1,((x.2.1.1,x.2.1.2),(x.2.2.1,x.2.2.2)))=x from rfl,hb,Option.bind_some]
  simp only[Bool.not_true,cond_false,h1,decide_true,cond_true]
 by_cases h2:4096<x.2.2.2
 ·refine .inr ⟨fun h=>by have:=h.t1;omega,?_⟩
  unfold ja0
  rw[show(x.1,((x.2.1.1,x.2.1.2),(x.2.2.1,x.2.2.2)))=x from rfl,hb,Option.bind_some]
  simp only[Bool.not_true,cond_false,h1,h2,decide_false,decide_true,cond_true]
 have hx:OkX x:=⟨ho,by omega,by omega⟩
 have hv:=hx.vl
 have hft:=ho.ft
 have n1:=jhr (n:=x.2.2.1) (by omega) (by omega)
 have n2:=jhr (n:=x.2.2.2) (by omega) (by omega)
 have hl:=j4v hv
 have le1:=n1.le
 have le2:=n2.le
 have hk:x.1=1∨x.1=2∨x.1=3:=by have:=ho.k1;have:=ho.k3;omega
 have hL:jdg fuel (x.2.1.1,x.2.1.2)=some (lnT x.2.1):=by
  rcases jk4 x.2.1 with⟨_,e⟩ | ⟨h,_⟩
  ·exact e
  ·exact absurd hv h
 refine .inl ⟨hx,?_⟩
 unfold ja0
 rw[show(x.1,((x.2.1.1,x.2.1.2),(x.2.2.1,x.2.2.2)))=x from rfl,hb,Option.bind_some]
 simp only[Bool.not_true,cond_false,h1,h2,decide_false]
 rw[kj4 (k:=x.1) (by omega) (by omega),hL,Option.bind_some,n1.it,Option.bind_some,n2.it,Option.bind_some]
 unfold sgT kLt
 generalize nm x.2.2.1=s1 at le1
 generalize nm x.2.2.2=s2 at le2
 generalize lnT x.2.1=s3 at hl
 rcases hk with e | e | e<;>(rw[e];simp[chk,bnb,Bool.cond_decide];try omega)
theorem jut {x:j9c} (hx:OkX x):jip fuel x=some (sgT x):=by
 have hv:=hx.vl
 have hft:=hx.o.ft
 have f0:=hx.f0
 have t1:=hx.t1
 have n1:=jhr (n:=x.2.2.1) (by omega) (by omega)
 have n2:=jhr (n:=x.2.2.2) (by omega) (by omega)
 have hl:=j4v hv
 have le1:=n1.le
 have le2:=n2.le
 have hk:x.1=1∨x.1=2∨x.1=3:=by have:=hx.o.k1;have:=hx.o.k3;omega
 unfold jip
 rw[show(x.2.1.1,x.2.1.2)=x.2.1 from rfl,j4e hv,Option.bind_some,n1.de,Option.bind_some,n2.de,Option.bind_some]
 unfold sgT kLt
 generalize nm x.2.2.1=s1 at le1
 generalize nm x.2.2.2=s2 at le2
 generalize lnT x.2.1=s3 at hl
 rcases hk with e | e | e<;>(rw[e];simp[chk,inb,Bool.cond_decide];try omega)
end X
end Go.Vm
namespace Go.Vm
namespace X
open W Go.RowKit
theorem krt {w:List Nat} (h:∀y∈w,y<256):j18 [w] [32]=w:=by
 simp only[j18,List.map_cons,List.map_nil,Lib.join_one]
 exact j30 h
theorem jqy {w0:List Nat} {ws:List (List Nat)} {w:List Nat} (h:∀y∈w,y<256):j18 ((w0::ws)++[w]) [32]=j18 (w0::ws) [32]++32::w:=by
 have e:(u8 w).map UInt8.toNat=w:=j30 h
 simp only[j18,List.cons_append,List.map_cons,List.map_append,List.map_nil,Lib.join_cons]
 simp only[Lib.joinTail,List.map_append,List.flatten_append,List.map_cons,List.map_nil,List.flatten_cons,List.flatten_nil,List.append_nil,List.append_assoc,e]
 congr 2
theorem j8g (s:List Nat):∃r,jg8 fuel s=some r:=by
 have htx:∀l:Int×Int,∃t,jdg fuel l=some t∧asc t=true:=fun l=>by
  rcases jk4 l with⟨hv,e⟩ | ⟨_,e⟩
  ·refine⟨_,e,?_⟩
   have hn:=jhr hv.2.2.1 hv.2.2.2
   unfold lnT asc
   rw[List.all_eq_true]
   intro y hy
   have hl:ltr l.1<128:=by
    unfold ltr
    have hk:l.1=1∨l.1=2∨l.1=3∨l.1=4:=by have:=hv.1;have:=hv.2.1;omega
    rcases hk with e | e | e | e<;>(rw[e];decide)
   simp only[Nat.blt,jae,decide_eq_true_eq]
   rcases List.mem_cons.1 hy with rfl | hy
   ·omega
   ·rcases List.mem_cons.1 hy with rfl | hy
    ·omega
    ·have:=hn.ch y hy;omega
  ·exact⟨_,e,rfl⟩
 unfold jg8 jry
 cases asc s with
 | true=>
   obtain⟨t,ht,_⟩:=htx (Go.Proofs.S07.lpFin s)
   rw[cond_true,ht]
   exact⟨_,rfl⟩
 | false=>
   rw[cond_false]
   unfold ka6
   rw[if_pos fun k c _=>htx (k,c)]
   exact⟨_,rfl⟩
theorem j7b {s:List Nat} (h:s.length≤1000000):∃r,jdl fuel s=some r:=by
 unfold jdl ki7
 rw[jae,decide_eq_true h,cond_true]
 split<;>exact⟨_,rfl⟩
theorem j55 {t:List Nat} (h:t.length≤1000):strings_Split fuel (t,[32])=some (jdm t [32]):=by
 unfold strings_Split j92
 simp only
 rw[jae,decide_eq_true (by omega)]
 rfl
theorem kik {w:List Nat} (h:w.length=1):∃r,jgb fuel ([32,109,118,97],w)=some r:=by
 unfold jgb j2a
 match w,h with
 | [c],_=>exact⟨_,rfl⟩
abbrev zSg:j9c:=(0,((0,0),(0,0)))
theorem kao {s:List Nat} (h:s.length≤1000):∃r,jbb fuel s=some r∧(r=(zSg,4)∨(r.2=0∧ja0 fuel r.1=some s∧s≠[])):=by
 suffices hs:Ret (jbb fuel s) fun r=>(r=(zSg,4)∨(r.2=0∧ja0 fuel r.1=some s∧s≠[])) from hs
 obtain⟨hw1,hw2⟩:=j9f s
 have hlen:∀i,i< (jdm s [32]).length→((jdm s [32]).getD i []).length≤1000:=fun i hi=>by
  rw[List.getD_eq_getElem?_getD,List.getElem?_eq_getElem hi,Option.getD_some]
  exact Nat.le_trans (hw2 _ (List.getElem_mem hi)) h
 unfold jbb
 rw[j55 h,Option.bind_some]
 refine jaf (fun _=>jas (.inl rfl)) fun h5=>?_
 have h5:(jdm s [32]).length=5:=by have:=Classical.not_not.1 h5;omega
 have hin:∀i:Nat,i<5→inb (i:Int) (jdm s [32]).length=true:=fun i hi=>jeg (by omega) (by rw[h5];omega)
 have hne:s≠[]:=fun e=>by rw[e] at h5;exact absurd h5 (by decide)
 refine jac (hin 0 (by omega)) (jaf (fun _=>jas (.inl rfl)) fun h1=>?_)
 have h1:((jdm s [32]).getD 0 []).length=1:=by have:=Classical.not_not.1 h1;omega
 have l1:=hlen 1 (by omega)
 have l2:=hlen 2 (by omega)
 have l3:=hlen 3 (by omega)
 have l4:=hlen 4 (by omega)
 obtain⟨r2,e2⟩:=j8g (((jdm s [32]).getD 1 []++[32])++(jdm s [32]).getD 2 [])
 obtain⟨r3,e3⟩:=j7b (s:=(jdm s [32]).getD 3 []) (by omega)
 obtain⟨r4,e4⟩:=j7b (s:=(jdm s [32]).getD 4 []) (by omega)
 obtain⟨r5,e5⟩:=kik h1
 refine jac (hin 1 (by omega)) (jac (by rw[decide_eq_true_eq];omega) (jac (hin 2 (by omega)) (jac (by rw[decide_eq_true_eq,List.length_append,List.length_singleton];omega) ?_)))
 rw[e2,Option.bind_some]
 refine jac (hin 3 (by omega)) ?_
 rw[e3,Option.bind_some]
 refine jac (hin 4 (by omega)) ?_
 rw[e4,Option.bind_some]
 refine jac (hin 0 (by omega)) ?_
 rw[e5,Option.bind_some]
 refine jaf (fun _=>jas (.inl rfl)) fun _=>jcr (fun _=>jas (.inl rfl)) fun _=>jcr (fun _=>jas (.inl rfl)) fun _=>?_
 have hT:∃t,ja0 fuel (IntKind.u8.wrap (max r5 0),((r2.1.1,r2.1.2),(r3.1,r4.1)))=some t:=by
  rcases ji8 (IntKind.u8.wrap (max r5 0),((r2.1.1,r2.1.2),(r3.1,r4.1))) with⟨_,e⟩ | ⟨_,e⟩<;>exact⟨_,e⟩
 obtain⟨t,et⟩:=hT
 rw[et,Option.bind_some]
 refine jaf (fun _=>jas (.inl rfl)) fun hr=>jas (.inr ⟨rfl,?_,hne⟩)
 have hr:t=s:=Classical.not_not.1 hr
 rw[←hr]
 exact et
theorem kl5 {k:Int} (h:1≤k∧k≤3):kLt k<256∧kLt k≠32:=by
 have hk:k=1∨k=2∨k=3:=by omega
 unfold kLt
 rcases hk with rfl | rfl | rfl<;>decide
theorem kl0 {k:Int} (h:1≤k∧k≤4):ltr k<256∧ltr k≠32:=by
 have hk:k=1∨k=2∨k=3∨k=4:=by omega
 unfold ltr
 rcases hk with rfl | rfl | rfl | rfl<;>decide
theorem j95 {x:j9c} (hx:OkX x):jdm (sgT x) [32]=[[kLt x.1],[ltr x.2.1.1],nm x.2.1.2,nm x.2.2.1,nm x.2.2.2]:=by
 have hv:=hx.vl
 have hft:=hx.o.ft
 have f0:=hx.f0
 have t1:=hx.t1
 have n0:=jhr hv.2.2.1 hv.2.2.2
 have n1:=jhr (n:=x.2.2.1) (by omega) (by omega)
 have n2:=jhr (n:=x.2.2.2) (by omega) (by omega)
 have k1:=kl5 ⟨hx.o.k1,hx.o.k3⟩
 have k2:=kl0 ⟨hv.1,hv.2.1⟩
 have c1:∀y∈[ltr x.2.1.1],y<256:=fun y hy=>by rw[List.mem_singleton.1 hy];exact k2.1
 have c0:∀y∈[kLt x.1],y<256:=fun y hy=>by rw[List.mem_singleton.1 hy];exact k1.1
 have cn:∀ {n:Int},NumOK n→∀y∈nm n,y<256:=fun h y hy=>by have:=h.ch y hy;omega
 have e:sgT x=j18 ([kLt x.1]::[[ltr x.2.1.1],nm x.2.1.2,nm x.2.2.1,nm x.2.2.2]) [32]:=by
  have j1:=krt c0
  have j2:=jqy (w0:=[kLt x.1]) (ws:=[]) c1
  have j3:=jqy (w0:=[kLt x.1]) (ws:=[[ltr x.2.1.1]]) (cn n0)
  have j4:=jqy (w0:=[kLt x.1]) (ws:=[[ltr x.2.1.1],nm x.2.1.2]) (cn n1)
  have j5:=jqy (w0:=[kLt x.1]) (ws:=[[ltr x.2.1.1],nm x.2.1.2,nm x.2.2.1]) (cn n2)
  simp only[List.cons_append,List.nil_append] at j2 j3 j4 j5
  rw[j5,j4,j3,j2,j1]
  simp[sgT,lnT]
 rw[e,j8k]
 intro w hw y hy
 simp only[List.mem_cons,List.not_mem_nil,or_false] at hw
 rcases hw with rfl | rfl | rfl | rfl | rfl
 ·rw[List.mem_singleton.1 hy];exact k1
 ·rw[List.mem_singleton.1 hy];exact k2
 ·have:=n0.ch y hy;omega
 ·have:=n1.ch y hy;omega
 ·have:=n2.ch y hy;omega
theorem kg8 {x:j9c} (hx:OkX x):(sgT x).length≤40:=by
 have hv:=hx.vl
 have hft:=hx.o.ft
 have f0:=hx.f0
 have t1:=hx.t1
 have n1:=(jhr (n:=x.2.2.1) (by omega) (by omega)).le
 have n2:=(jhr (n:=x.2.2.2) (by omega) (by omega)).le
 have n0:=j4v hv
 unfold sgT
 simp only[List.length_append,List.length_singleton]
 omega
theorem ka5 {l:Int×Int} (hv:VL l):jg8 fuel (lnT l)=some (l,0):=by
 have hn:=jhr hv.2.2.1 hv.2.2.2
 have ha:asc (lnT l)=true:=by
  unfold lnT asc
  rw[List.all_eq_true]
  intro y hy
  have hl:ltr l.1<128:=by
   unfold ltr
   have hk:l.1=1∨l.1=2∨l.1=3∨l.1=4:=by have:=hv.1;have:=hv.2.1;omega
   rcases hk with e | e | e | e<;>(rw[e];decide)
  simp only[Nat.blt,jae,decide_eq_true_eq]
  rcases List.mem_cons.1 hy with rfl | hy
  ·omega
  ·rcases List.mem_cons.1 hy with rfl | hy
   ·omega
   ·have:=hn.ch y hy;omega
 have hf:Go.Proofs.S07.lpFin (lnT l)=l:=by
  have hk:l.1=1∨l.1=2∨l.1=3∨l.1=4:=by have:=hv.1;have:=hv.2.1;omega
  unfold lnT ltr
  rcases hk with e | e | e | e
  ·rw[e];exact hn.l1.trans (Prod.ext e.symm rfl)
  ·rw[e];exact hn.l2.trans (Prod.ext e.symm rfl)
  ·rw[e];exact hn.l3.trans (Prod.ext e.symm rfl)
  ·rw[e];exact hn.l4.trans (Prod.ext e.symm rfl)
 have ht:jdg fuel l=some (lnT l):=by
  rcases jk4 l with⟨_,e⟩ | ⟨h,_⟩
  ·exact e
  ·exact absurd hv h
 unfold jg8 jry
 rw[ha,cond_true,hf,ht,Option.bind_some]
 have:(lnT l).isEmpty=false:=rfl
 rw[this]
 simp
theorem koe {k:Int} (h:1≤k∧k≤3):jgb fuel ([32,109,118,97],[kLt k])=some k:=by
 have hk:k=1∨k=2∨k=3:=by omega
 unfold kLt
 rcases hk with rfl | rfl | rfl<;>rfl
theorem j79 {x:j9c} (hx:OkX x):jbb fuel (sgT x)=some (x,0):=by
 have hv:=hx.vl
 have hft:=hx.o.ft
 have f0:=hx.f0
 have t1:=hx.t1
 have n0:=jhr hv.2.2.1 hv.2.2.2
 have n1:=jhr (n:=x.2.2.1) (by omega) (by omega)
 have n2:=jhr (n:=x.2.2.2) (by omega) (by omega)
 have le0:=n0.le
 have hk:1≤x.1∧x.1≤3:=⟨hx.o.k1,hx.o.k3⟩
 have hT:ja0 fuel x=some (sgT x):=by
  rcases ji8 x with⟨_,e⟩ | ⟨h,_⟩
  ·exact e
  ·exact absurd hx h
 apply Ret.eq
 unfold jbb
 rw[j55 (by have:=kg8 hx;omega),Option.bind_some,j95 hx]
 refine jaf (fun g=>absurd (by rfl) g) fun _=>jac rfl (jaf (fun g=>absurd (by rfl) g) fun _=>jac rfl (jac rfl (jac rfl (jac ?_ ?_))))
 ·rw[decide_eq_true_eq]
  show([ltr x.2.1.1]++[32]).length+ (nm x.2.1.2).length≤_
  simp only[List.length_append,List.length_singleton]
  omega
 have e1:(([[kLt x.1],[ltr x.2.1.1],nm x.2.1.2,nm x.2.2.1,nm x.2.2.2]:List (List Nat)).getD 1 []++[32])++([[kLt x.1],[ltr x.2.1.1],nm x.2.1.2,nm x.2.2.1,nm x.2.2.2]:List (List Nat)).getD 2 []=lnT x.2.1:=rfl
 have e3:([[kLt x.1],[ltr x.2.1.1],nm x.2.1.2,nm x.2.2.1,nm x.2.2.2]:List (List Nat)).getD 3 []=nm x.2.2.1:=rfl
 have e4:([[kLt x.1],[ltr x.2.1.1],nm x.2.1.2,nm x.2.2.1,nm x.2.2.2]:List (List Nat)).getD 4 []=nm x.2.2.2:=rfl
 have e0:([[kLt x.1],[ltr x.2.1.1],nm x.2.1.2,nm x.2.2.1,nm x.2.2.2]:List (List Nat)).getD 0 []=[kLt x.1]:=rfl
 rw[e1,ka5 hv,Option.bind_some]
 refine jac rfl ?_
 rw[e3,n1.at',Option.bind_some]
 refine jac rfl ?_
 rw[e4,n2.at',Option.bind_some]
 refine jac rfl ?_
 rw[e0,koe hk,Option.bind_some]
 have hw:IntKind.u8.wrap (max x.1 0)=x.1:=by
  rcases(by omega:x.1=1∨x.1=2∨x.1=3) with e | e | e<;>(rw[e];rfl)
 refine jaf (fun g=>absurd rfl g) fun _=>jcr (fun g=>by cases g) fun _=>jcr (fun g=>by cases g) fun _=>?_
 rw[hw,show(x.1,((x.2.1.1,x.2.1.2),(x.2.2.1,x.2.2.2)))=x from rfl,hT,Option.bind_some]
 exact jaf (fun g=>absurd rfl g) fun _=>jas rfl
end X
end Go.Vm
namespace Go.Vm
namespace X
open W Go.RowKit
theorem kf2:Ret ((jbh fuel ()).bind fun r=>some r) fun x=>x=true:=by rw[j4y];exact jas rfl
theorem jsc {x:j9c} {s:List Nat}:jcz fuel (x,s)=some true:=by
 apply Ret.eq
 unfold jcz
 refine jaf (fun _=>jas rfl) fun hl=>?_
 have hl:s.length≤40:=by simp only at hl;omega
 refine jnh (fun b=>b=true↔OkX x) (fun b hb=>?_) fun j hj=>?_
 rotate_left
 ·refine jaf (fun h1=>?_) fun h1=>hj _ ⟨fun g=>(by cases g),fun g=>absurd g.o.k1 h1⟩
  refine jaf (fun h2=>?_) fun h2=>hj _ ⟨fun g=>(by cases g),fun g=>absurd g.o.k3 h2⟩
  rcases jyq x.2.1 with⟨e,hv⟩ | ⟨e,hv⟩
  ·rw[show((x.2.1.1,x.2.1.2):Int×Int)=x.2.1 from rfl,e,Option.bind_some]
   refine jaf (fun _=>?_) fun g=>absurd rfl g
   refine jaf (fun h3=>?_) fun h3=>hj _ ⟨fun g=>(by cases g),fun g=>absurd g.o.ft h3⟩
   refine jaf (fun h4=>?_) fun h4=>hj _ ⟨fun g=>(by cases g),fun g=>absurd g.f0 h4⟩
   refine hj _ ⟨fun g=>⟨⟨h1,h2,hv.1,hv.2.1,hv.2.2.1,hv.2.2.2,h3⟩,h4,by simpa using g⟩,fun g=>by simpa using g.t1⟩
  ·rw[show((x.2.1.1,x.2.1.2):Int×Int)=x.2.1 from rfl,e,Option.bind_some]
   exact jaf (fun g=>absurd g (by decide)) fun _=>hj _ ⟨fun g=>(by cases g),fun g=>absurd ⟨g.o.l1,g.o.l4,g.o.c0,g.o.c1⟩ hv⟩
 refine jnh (fun w=>ja0 fuel x=some w) (fun w hw=>?_) fun j hj=>?_
 ·rw[show(x.1,((x.2.1.1,x.2.1.2),(x.2.2.1,x.2.2.2)))=x from rfl,hw,Option.bind_some]
  refine jaf (fun g=>absurd rfl g) fun _=>?_
  obtain⟨r,hr,h⟩:=kao (s:=s) (by omega)
  rw[hr,Option.bind_some]
  rcases h with rfl | ⟨h1,h2,h3⟩
  ·refine jaf (fun _=>jaf (fun _=>jcr (fun _=>kf2) fun g=>by cases g) fun g=>absurd rfl g) fun g=>absurd (by decide) g
  ·refine jaf (fun g=>absurd h1 g) fun _=>?_
   rcases ji8 r.1 with⟨ho,e⟩ | ⟨_,e⟩
   ·rw[h2] at e
    have e:s=sgT r.1:=Option.some.inj e
    refine jaf (fun _=>jaf (fun _=>jaf (fun _=>?_) fun g=>absurd ho.t1 g) fun g=>absurd ho.f0 g) fun g=>absurd ho.o.ft g
    rw[show(r.1.1,((r.1.2.1.1,r.1.2.1.2),(r.1.2.2.1,r.1.2.2.2)))=r.1 from rfl,jut ho,Option.bind_some]
    exact jaf (fun _=>kf2) fun g=>absurd e.symm g
   ·rw[h2] at e
    exact absurd (Option.some.inj e) h3
 ·refine jcr (fun hbt=>?_) fun hbf=>hj _ ?_
  ·have ho:=hb.1 hbt
   have hT:ja0 fuel x=some (sgT x):=by
    rcases ji8 x with⟨_,e⟩ | ⟨h,_⟩
    ·exact e
    ·exact absurd ho h
   rw[show(x.1,((x.2.1.1,x.2.1.2),(x.2.2.1,x.2.2.2)))=x from rfl,jut ho,Option.bind_some,j79 ho,Option.bind_some]
   refine jnh (fun b=>b=false) (fun b hb=>?_) fun j6 hj6=>?_
   ·subst hb
    exact hj _ hT
   ·exact jcr (fun g=>by simp at g) fun _=>hj6 _ (by simp)
  ·rcases ji8 x with⟨h,_⟩ | ⟨_,e⟩
   ·rw[hb.2 h] at hbf;cases hbf
   ·exact e
end X
end Go.Vm
namespace Go.Vm
namespace X
open W Go.RowKit Go.Proofs.Un
theorem j3z (z:Int):0≤IntKind.u8.wrap z∧IntKind.u8.wrap z≤255:=by
 simp[IntKind.wrap,IntKind.bits,IntKind.signed];omega
theorem j2d {v:Int} (h1:0≤v) (h2:v≤1000000000):IntKind.i64.wrap v=v:=kbn (jan (by omega) (by omega))
theorem jq8 (tab:∀w h:Nat,(1≤w∧w≤5)→(1≤h∧h≤5)→∃T,Tab w h T):jdu fuel ()=some true:=by
 apply Ret.eq
 unfold jdu
 refine ja7 (Inv:=fun x:Int×Int=>0≤x.1∧x.1≤100003∧0≤x.2∧x.2≤12) (m:=fun x=>(12-x.2).toNat) ?_ _ _ ⟨by simp,by simp,by simp,by simp⟩ (by simp[fuel])
 rintro ⟨z,n⟩ rec ⟨i1,i2,i3,i4⟩ ih
 simp only at i1 i2 i3 i4 ⊢
 refine jaf (fun hlt=>?_) fun hge=>?_
 ·refine jac (by rw[j2d (by omega) (by omega)];simp;omega) ?_
  refine ja7 (Inv:=fun x:Int×(List (Int×(Int×(Int×(Int×Int))))×(Int×(Int×(Int×List Int))))=>0≤x.1∧x.1≤100003∧(x.2.1.length:Int)≤x.2.2.1∧0≤x.2.2.1∧x.2.2.1≤4*n∧(0≤x.2.2.2.1∧x.2.2.2.1≤255)∧(0≤x.2.2.2.2.1∧x.2.2.2.2.1≤255)∧(∀k∈x.2.2.2.2.2,0≤k)∧(x.2.2.2.2.2.length:Int)=x.2.2.1) (m:=fun x=>(4*n-x.2.2.1).toNat) ?_ _ _ ⟨i1,i2,by simp,by simp,by simp only;omega,j3z _,j3z _,(fun k hk=>by simp at hk),rfl⟩ (by simp[fuel];omega)
  rintro ⟨y,g,i,w,h,ks⟩ rec2 ⟨j1,j2,j3,j4,j5,j6,j7,j8,j9⟩ ih2
  simp only at j1 j2 j3 j4 j5 j6 j7 j8 j9 ⊢
  refine jac (jan (by omega) (by omega)) (jaf (fun hl2=>?_) fun hg2=>?_)
  ·have sn:∀v:Int,∀k∈ks++[IntKind.u8.wrap v],0≤k:=fun v k hk=>by
    rcases List.mem_append.1 hk with q | q
    ·exact j8 k q
    ·simp at q;subst q;exact(j3z v).1
   have hm2:i%2=0∨i%2=1:=by omega
   refine jac (by simp;omega) (jac (jan (by omega) (by omega)) (jac (by rcases hm2 with e | e<;>rw[e,j2d (by omega) (by omega)]<;>simp<;>omega) (jac (jg9 (by omega)) (jac (by simp;omega) (jaf (fun _=>?_) fun _=>?_)))))
   ·refine jac (by rw[j2d (by omega) (by omega)];simp;omega) (jac (by simp;omega) (jac (by rw[j2d (by omega) (by omega)];simp;omega) (jac (by rw[j2d (by omega) (by omega)];simp;omega) (jac (jg9 (by omega)) ?_))))
    exact jac (jan (by omega) (by omega)) (jac (jan (by omega) (by omega)) (jac (jan (by omega) (by omega)) (jac (jan (by omega) (by omega)) (jac (by simp;omega) (jac (jan (by omega) (by omega)) (ih2 _ ⟨by simp only;omega,by simp only;omega,by simp;omega,by simp only;omega,by simp only;omega,j6,j7,sn _,by simp;omega⟩ (by simp only;omega)))))))
   ·exact jac (jan (by omega) (by omega)) (jac (jan (by omega) (by omega)) (jac (jan (by omega) (by omega)) (jac (jan (by omega) (by omega)) (jac (by simp;omega) (jac (jan (by omega) (by omega)) (ih2 _ ⟨by simp only;omega,by simp only;omega,by simp only;omega,by simp only;omega,by simp only;omega,j6,j7,sn _,by simp;omega⟩ (by simp only;omega)))))))
  ·rw[jwa tab (a:=(w,(h,ks))) j6.1 j7.1 j8,Option.bind_some]
   simp only[Bool.not_true,cond_false]
   rw[joi tab (a:=(IntKind.u8.wrap n,3)) (j3z n).1 (j3z n).2 (by simp) (by simp),Option.bind_some]
   simp only[Bool.not_true,cond_false]
   rw[jpq tab (a:=(w,(h,ks))) j6.1 j7.1 j8,Option.bind_some]
   simp only[Bool.not_true,cond_false]
   obtain⟨r,e⟩:=kc4 (1,(IntKind.u8.wrap n,(IntKind.i8.wrap (n%5),(IntKind.u8.wrap n,IntKind.u8.wrap y))))
   refine jac (by simp;omega) ?_
   rw[e,Option.bind_some,jj1 tab (a:=(4,IntKind.u8.wrap n)) (by simp) (by simp) (j3z n).1 (j3z n).2,Option.bind_some]
   simp only[Bool.not_true,cond_false]
   exact jac (jan (by omega) (by omega)) (ih _ ⟨j1,j2,by simp only;omega,by simp only;omega⟩ (by simp only;omega))
 ·clear ih
  refine jnh (fun x=>x.1.length=12) (fun x hx=>?_) fun j hj=>hj _ rfl
  refine ja7 (Inv:=fun i:Int=>0≤i∧i≤12) (m:=fun i=>(12-i).toNat) ?_ _ _ ⟨by simp,by simp⟩ (by simp[fuel])
  rintro i rec ⟨i1,i2⟩ ih
  refine jaf (fun hl=>?_) fun hg=>?_
  ·have hl:i< ((x.1.length:Nat):Int):=hl
   rw[hx] at hl
   refine jac (by simp;omega) (jac (by simp;omega) (jac (jan (by omega) (by omega)) (jac (jan (by omega) (by omega)) ?_)))
   unfold jav
   rw[Option.bind_some]
   refine jac (by rw[hx];exact jeg i1 hl) ?_
   rw[jsc,Option.bind_some]
   simp only[Bool.not_true,cond_false]
   exact jac (jan (by omega) (by omega)) (ih _ ⟨by omega,by omega⟩ (by omega))
  ·clear ih
   unfold jav
   rw[Option.bind_some]
   rw[jpr tab (p:=(0,(0,[]))) (fun c hc=>by simp at hc),Option.bind_some]
   simp only[cond_true]
   rw[Option.bind_some,jj1 tab (a:=(1,1)) (by simp) (by simp) (by simp) (by simp),Option.bind_some]
   simp only[cond_true]
   exact jfw
end X
end Go.Vm
