/-
  Segments: what the tables say; the units of a segment.
  Segments: the units of a segment, by the program and by the reference; the law SegmentsUnits.
  Segments: the chapter's examples, run by the kernel.
  Segments: the reference's units; the law SegmentsUnits.
  Segments: patterns out of segments, by the program and by the reference.
  Segments: the program's Pattern and the reference's.
  Segments: the reference's Pattern.
  Segments: the law SegmentsPattern.
  Segments: the units of all lines in order, and how they grow together.
  Segments: the reference walks along all lines.
  Segments: the program's segments are those of the walk.
  Segments: the names of units; which patterns are valid.
  Segments: the two checks of a pattern.
  Segments: what the segments of a pattern are made of.
  Segments: the law SegmentsOf.
  Segments: the law SegmentsErrors.
-/
import Derived.Test.YtonohffniohehaaGreatDoorTa
set_option linter.unusedSimpArgs false
set_option linter.unusedVariables false
set_option linter.unusedSectionVars false
set_option linter.unnecessarySimpa false
namespace Go.Vm
namespace X
open W Go.Proofs.Un
theorem adj_pw {α:Type} {r:α→α→Bool} (tr:∀x y z,r x y=true→r y z=true→r x z=true):∀ {l:List α},adj r l=true→l.Pairwise fun x y=>r x y=true
 | [],_=>List.Pairwise.nil
 | x::l,h=>by
   simp only[adj,Bool.and_eq_true] at h
   have ih:=adj_pw tr h.2
   refine List.pairwise_cons.2 ⟨fun y hy=>?_,ih⟩
   cases l with
   | nil=>cases hy
   | cons z l=>
     rcases List.mem_cons.1 hy with e | hy
     ·rw[e];exact h.1
     ·exact tr _ _ _ h.1 ((List.pairwise_cons.1 ih).1 y hy)
theorem asc2_iff {x y:UnT}:asc2 x y=true↔x.1<y.1∨x.1=y.1∧x.2<y.2:=by
 simp[asc2]
def Nx (x y:LiT):Prop:=x.2.1.1<y.2.1.1∨x.2.1.1=y.2.1.1∧(x.2.1.2<y.2.1.2∨x.2.1.2=y.2.1.2∧x.2.2.2≤y.2.2.1)
theorem nxt_iff {x y:LiT}:nxt x y=true↔Nx x y:=by
 simp[nxt,Nx]
structure LiOK (w h:Nat) (x:LiT):Prop where
 k1:1≤x.2.1.1
 k4:x.2.1.1≤4
 c0: -(w:Int)≤x.2.1.2
 c1:x.2.1.2≤(w:Int)+h
 f0:0≤x.2.2.1
 ft:x.2.2.1<x.2.2.2
 t1:x.2.2.2≤2* ((w:Int)+h)
 u0:0≤x.1.1
 u1:x.1.1<4* (w:Int)*h
 e0:0≤x.1.2
 e2:x.1.2≤2
section
variable {w h:Nat} {T:List LiT}
theorem Tab.li (t:Tab w h T) {x:LiT} (hx:x∈T):LiOK w h x:=by
 have:=List.all_eq_true.1 t.ok x hx
 simp only[okLi,Bool.and_eq_true,decide_eq_true_eq] at this
 obtain⟨⟨⟨⟨⟨⟨⟨⟨⟨⟨a1,a2⟩,a3⟩,a4⟩,a5⟩,a6⟩,a7⟩,a8⟩,a9⟩,a10⟩,a11⟩:=this
 exact⟨a1,a2,a3,a4,a5,a6,a7,a8,a9,a10,a11⟩
theorem Tab.asc (t:Tab w h T):(T.map (·.1)).Pairwise fun x y=>x.1<y.1∨x.1=y.1∧x.2<y.2:=
 (adj_pw (fun x y z h1 h2=>by rw[asc2_iff] at *;omega) t.up).imp fun h=>asc2_iff.1 h
theorem Tab.ndU (t:Tab w h T):(T.map (·.1)).Nodup:=t.asc.imp fun {a b} h e=>by subst e;omega
theorem nodup_inj {α:Type} {l:List α} (h:l.Nodup) {i j:Nat} (hi:i<l.length) (hj:j<l.length) (e:l[i]=l[j]):i=j:=by
 rcases Nat.lt_trichotomy i j with g | g | g
 ·exact absurd e (List.pairwise_iff_getElem.1 h i j hi hj g)
 ·exact g
 ·exact absurd e.symm (List.pairwise_iff_getElem.1 h j i hj hi g)
theorem Tab.unitInj (t:Tab w h T) {x y:LiT} (hx:x∈T) (hy:y∈T) (e:x.1=y.1):x=y:=by
 obtain⟨i,hi,rfl⟩:=List.getElem_of_mem hx
 obtain⟨j,hj,rfl⟩:=List.getElem_of_mem hy
 have h1:(T.map (·.1))[i]'(by simpa using hi)=(T.map (·.1))[j]'(by simpa using hj):=by simpa using e
 have:=nodup_inj t.ndU _ _ h1
 subst this
 rfl
theorem pwB_pw {α:Type} {r:α→α→Bool}:∀ {l:List α},pwB r l=true→l.Pairwise fun x y=>r x y=true
 | [],_=>List.Pairwise.nil
 | x::l,h=>by
   simp only[pwB,Bool.and_eq_true] at h
   exact List.pairwise_cons.2 ⟨fun y hy=>List.all_eq_true.1 h.1 y hy,pwB_pw h.2⟩
theorem Tab.key (t:Tab w h T):KeyD T:=(pwB_pw t.kd).imp fun {x y} h ⟨h1,h2⟩=>by
 simp[keyN,h1,h2] at h
theorem Tab.len (t:Tab w h T) (hw:w≤6) (hh:h≤6):T.length≤1000:=by
 have hn:=t.ndU
 have:(T.map (·.1)).length≤1000:=by
  have hsub:∀u∈T.map (·.1),u∈((List.range 144).flatMap fun(i:Nat)=>(List.range 3).map fun(e:Nat)=>(((i:Nat):Int),((e:Nat):Int))):=by
   intro u hu
   obtain⟨x,hx,rfl⟩:=List.mem_map.1 hu
   have:=t.li hx
   have h1:=this.u0;have h2:=this.u1;have h3:=this.e0;have h4:=this.e2
   have h5:4* (w:Int)*h≤4*6*6:=by
    have:w*h≤6*6:=Nat.mul_le_mul hw hh
    have e:(4* (w:Int)*h)=4* ((w*h:Nat):Int):=by rw[Int.natCast_mul,Int.mul_assoc]
    omega
   refine List.mem_flatMap.2 ⟨x.1.1.toNat,List.mem_range.2 (by omega),List.mem_map.2 ⟨x.1.2.toNat,List.mem_range.2 (by omega),?_⟩⟩
   exact Prod.ext (by simp only;omega) (by simp only;omega)
  have:=hn.length_le_of_subset hsub
  exact Nat.le_trans this (by decide +kernel)
 simpa using this
end
end X
end Go.Vm
namespace Go.Vm
namespace X
open W
def wk (T:List LiT) (l:Int×Int) (tq:Int):Nat→Int→Option (List UnT)
 | 0,_=>none
 | n+1,p=>if p=tq then some [] else match lkT T l p with
   | none=>none
   | some x=>if tq<x.2.2.2 then none else(wk T l tq n x.2.2.2).map (x.1::·)
def mm (p:Int):Nat:=if 0≤p∧p≤24 then(24-p).toNat+1 else 26
def wkS (T:List LiT) (l:Int×Int) (tq p:Int):Option (List UnT):=wk T l tq (mm p) p
abbrev SgT:=Int×((Int×Int)×(Int×Int))
structure OrdP (x:SgT):Prop where
 k1:1≤x.1
 k3:x.1≤3
 l1:1≤x.2.1.1
 l4:x.2.1.1≤4
 c0: -4096≤x.2.1.2
 c1:x.2.1.2≤4096
 ft:x.2.2.1<x.2.2.2
open Classical in
noncomputable def unitsR (T:List LiT) (x:SgT):List UnT×Int:=if OrdP x then(match wkS T x.2.1 x.2.2.2 x.2.2.1 with
 | none=>([],7)
 | some u=>(u,0)) else([],1)
section
variable {w h:Nat} {T:List LiT}
theorem sheet_Check_ok (hw:1≤w∧w≤6) (hh:1≤h∧h≤6):sheets_Check fuel ((w:Int),(h:Int))=some 0:=by
 unfold sheets_Check
 have h5:w*h≤6*6:=Nat.mul_le_mul hw.2 hh.2
 have e:((w:Int)*h)=((w*h:Nat):Int):=by rw[Int.natCast_mul]
 have n1:¬((w:Int)<1):=by omega
 have n2:¬((h:Int)<1):=by omega
 have n3:¬((256:Int)<w):=by omega
 have n4:¬((256:Int)<h):=by omega
 have n5:¬((256:Int)< (w:Int)*h):=by omega
 simp only[n1,n2,n3,n4,decide_false,cond_false]
 rw[i64b_t (by omega) (by omega)]
 simp only[chk,cond_true,n5,decide_false,cond_false]
end
end X
end Go.Vm
namespace Go.Vm
namespace X
open W
theorem lives07:law07_lives fuel ()=some true:=by kernel_rfl
end X
end Go.Vm
namespace Go.Vm
namespace X
open W
section
variable {w h:Nat} {T:List LiT}
end
theorem lives_bind:Ret ((law07_lives fuel ()).bind fun r=>some r) fun x=>x=true:=by rw[lives07];exact Ret_some rfl
end X
end Go.Vm
namespace Go.Vm
namespace X
open W
def isU (u:UnT) (c:CreT):Bool:=decide (c.1=u.1)&&decide (c.2.1=u.2)
theorem isU_iff {u:UnT} {c:CreT}:isU u c=true↔(c.1,c.2.1)=u:=by
 simp[isU,Prod.ext_iff]
def kindIn (out:List CreT) (u:UnT):Int:=match out.find? (isU u) with
 | some c=>c.2.2
 | none=>0
def unitC (c:CreT):UnT:=(c.1,c.2.1)
structure OutOK (T:List LiT) (out:List CreT):Prop where
 nd:(out.map unitC).Nodup
 sub:∀c∈out,unitC c∈T.map (·.1)
 k1:∀c∈out,1≤c.2.2∧c.2.2≤3
theorem kindIn_mem {out:List CreT} (hn:(out.map unitC).Nodup) {c:CreT} (hc:c∈out):kindIn out (unitC c)=c.2.2:=by
 unfold kindIn
 cases h:out.find? (isU (unitC c)) with
 | none=>exact absurd (isU_iff.2 rfl) (List.find?_eq_none.1 h c hc)
 | some d=>
   have h1:=List.mem_of_find?_eq_some h
   have h2:=isU_iff.1 (List.find?_some h)
   obtain⟨i,hi,rfl⟩:=List.getElem_of_mem hc
   obtain⟨j,hj,rfl⟩:=List.getElem_of_mem h1
   have:=nodup_inj hn (i:=i) (j:=j) (by simpa using hi) (by simpa using hj) (by simpa[unitC] using h2.symm)
   subst this
   rfl
theorem kindIn_0 {T:List LiT} {out:List CreT} (ho:OutOK T out) {u:UnT}:kindIn out u=0↔u∉out.map unitC:=by
 unfold kindIn
 cases h:out.find? (isU u) with
 | none=>
   refine⟨fun _ hm=>?_,fun _=>rfl⟩
   obtain⟨c,hc,e⟩:=List.mem_map.1 hm
   exact absurd (isU_iff.2 e) (List.find?_eq_none.1 h c hc)
 | some c=>
   have h1:=List.mem_of_find?_eq_some h
   have h2:=isU_iff.1 (List.find?_some h)
   have:=ho.k1 c h1
   refine⟨fun e=>by simp only at e;omega,fun hn=>absurd (List.mem_map.2 ⟨c,h1,h2⟩) hn⟩
theorem OutOK.len {w h:Nat} {T:List LiT} (t:Tab w h T) (hw:w≤6) (hh:h≤6) {out:List CreT} (ho:OutOK T out):out.length≤1000:=by
 have:=ho.nd.length_le_of_subset (l₂:=T.map (·.1)) (fun u hu=>by
  obtain⟨c,hc,rfl⟩:=List.mem_map.1 hu
  exact ho.sub c hc)
 have:=t.len hw hh
 simp only[List.length_map] at *
 omega
def addU (k:Int):List CreT→List UnT→Option (List CreT)
 | out,[]=>some out
 | out,v::us=>if kindIn out v=0 then addU k (out++[(v.1,(v.2,k))]) us else none
noncomputable def patL (T:List LiT):Int→List CreT→List SgT→(List CreT) ⊕ (Int×Int)
 | _,out,[]=>.inl out
 | i,out,x::l=>if(unitsR T x).2=0 then(match addU x.1 out (unitsR T x).1 with
   | none=>.inr (i,8)
   | some out'=>patL T (i+1) out' l) else .inr (i,(unitsR T x).2)
def filt (T:List LiT) (out:List CreT):List CreT:=T.filterMap fun x=>if kindIn out x.1=0 then none else some (x.1.1,(x.1.2,kindIn out x.1))
theorem filt_mem {T:List LiT} {out:List CreT} (ho:OutOK T out) (c:CreT):c∈filt T out↔c∈out:=by
 unfold filt
 rw[List.mem_filterMap]
 constructor
 ·rintro ⟨x,hx,e⟩
  split at e
  ·cases e
  ·rename_i h0
   have:∃d∈out,unitC d=x.1:=by
    have:x.1∈out.map unitC:=by
     apply Classical.byContradiction
     intro hn
     exact h0 ((kindIn_0 ho).2 hn)
    exact List.mem_map.1 this
   obtain⟨d,hd,ed⟩:=this
   have hk:=kindIn_mem ho.nd hd
   rw[ed] at hk
   rw[hk] at e
   cases e
   rw[←ed]
   exact hd
 ·intro hc
  obtain⟨x,hx,ex⟩:=List.mem_map.1 (ho.sub c hc)
  refine⟨x,hx,?_⟩
  have hk:=kindIn_mem ho.nd hc
  have:=ho.k1 c hc
  rw[ex,hk,if_neg (by omega)]
  rfl
theorem w64 {n:Int} (h:0≤n) (h2:n≤1000):RowKit.wrap64 n=n:=by unfold RowKit.wrap64;omega
theorem filt_sorted {w h:Nat} {T:List LiT} (t:Tab w h T) (out:List CreT):(filt T out).Pairwise fun a b=>cfC a b<0:=by
 have hp:T.Pairwise fun x y=>x∈T∧y∈T∧(x.1.1<y.1.1∨x.1.1=y.1.1∧x.1.2<y.1.2):=by
  have:=List.pairwise_map.1 t.asc
  rw[List.pairwise_iff_getElem] at this ⊢
  intro i j hi hj hij
  exact⟨List.getElem_mem _,List.getElem_mem _,this i j hi hj hij⟩
 refine List.Pairwise.filterMap _ (fun x y hxy a ha b hb=>?_) hp
 obtain⟨hx,hy,hlt⟩:=hxy
 have lx:=t.li hx
 have ly:=t.li hy
 split at ha<;>simp only[Option.mem_def,reduceCtorEq,Option.some.injEq] at ha
 split at hb<;>simp only[Option.mem_def,reduceCtorEq,Option.some.injEq] at hb
 subst ha hb
 rw[cfC_lt]
 simp only
 rw[w64 lx.e0 (by have:=lx.e2;omega),w64 ly.e0 (by have:=ly.e2;omega)]
 exact hlt
theorem filt_perm {w h:Nat} {T:List LiT} (t:Tab w h T) {out:List CreT} (ho:OutOK T out):out.Perm (filt T out):=by
 have n1:out.Nodup:=List.Pairwise.of_map _ (fun a b h e=>h (by rw[e])) ho.nd
 have n2:(filt T out).Nodup:=(filt_sorted t out).imp fun {a b} h e=>by subst e;rw[cfC_lt] at h;omega
 exact(List.perm_ext_iff_of_nodup n1 n2).2 fun c=>(filt_mem ho c).symm
end X
end Go.Vm
namespace Go.Vm
namespace X
open W
section
variable {w h:Nat} {T:List LiT}
abbrev PatT:=Int×(Int×List CreT)
noncomputable def patR (T:List LiT) (w h:Nat) (l:List SgT):PatT×(Int×Int):=match patL T 0 [] l with
 | .inl out=>(((w:Int),((h:Int),filt T out)),(0,0))
 | .inr e=>((0,(0,[])),e)
theorem drop_cons {α:Type} {l:List α} {i:Nat} (hi:i<l.length):l.drop i=l[i]::l.drop (i+1):=List.drop_eq_getElem_cons hi
theorem getD_at {α:Type} {l:List α} {i:Nat} {d:α} (hi:i<l.length):l.getD ((i:Int).toNat) d=l[i]:=by
 rw[Int.toNat_natCast,List.getD_eq_getElem?_getD,List.getElem?_eq_getElem hi];rfl
end
end X
end Go.Vm
namespace Go.Vm
namespace X
open W
section
variable {w h:Nat} {T:List LiT}
end
end X
end Go.Vm
namespace Go.Vm
namespace X
open W
end X
end Go.Vm
namespace Go.Vm
namespace X
open W Go.RowKit
section
variable {w h:Nat} {T:List LiT}
theorem lkT_filter (T:List LiT) (l:Int×Int) (p:Int):lkT (T.filter fun x=>decide (x.2.1.1=l.1)&&decide (x.2.1.2=l.2)) l p=lkT T l p:=by
 unfold lkT
 rw[List.find?_filter]
 congr 1
 funext x
 unfold isAt
 cases decide (x.2.1.1=l.1)<;>cases decide (x.2.1.2=l.2)<;>simp
def atL (T:List LiT) (l:Int×Int):Nat→Option LiT:=fun p=>lkT T l (p:Int)
theorem lineL_eq (T:List LiT) (n:Nat) (l:Int×Int):lineL T n l=(List.range n).filterMap (atL T l):=by
 unfold lineL
 congr 1
 funext p
 exact lkT_filter T l p
def lnL (T:List LiT) (w h:Nat) (k c:Nat):List LiT:=(List.range (2* (w+h)+1)).filterMap (atL T ((k:Int)+1,(c:Int)-(w:Int)))
def kdL (T:List LiT) (w h:Nat) (k:Nat):List LiT:=(List.range (w+ (w+h)+1)).flatMap (lnL T w h k)
theorem walkS_eq (T:List LiT) (w h:Nat):walkS T w h=(List.range 4).flatMap (kdL T w h):=by
 unfold walkS kdL lnL
 simp only[lineL_eq]
theorem atL_mem {l:Int×Int} {p:Nat} {x:LiT} (e:atL T l p=some x):x∈T∧x.2.1=l∧x.2.2.1=p:=lkT_some e
theorem lnL_mem {k c:Nat} {x:LiT} (e:x∈lnL T w h k c):x∈T∧x.2.1=((k:Int)+1,(c:Int)-(w:Int)):=by
 obtain⟨p,_,hp⟩:=List.mem_filterMap.1 e
 exact⟨(atL_mem hp).1,(atL_mem hp).2.1⟩
theorem kdL_mem {k:Nat} {x:LiT} (e:x∈kdL T w h k):x∈T∧x.2.1.1=(k:Int)+1:=by
 obtain⟨c,_,hc⟩:=List.mem_flatMap.1 e
 have:=lnL_mem hc
 exact⟨this.1,by rw[this.2]⟩
theorem walk_mem (t:Tab w h T) {x:LiT}:x∈walkS T w h↔x∈T:=by
 rw[walkS_eq]
 constructor
 ·intro e
  obtain⟨k,_,hk⟩:=List.mem_flatMap.1 e
  exact(kdL_mem hk).1
 ·intro hx
  have li:=t.li hx
  have a1:=li.k1;have a2:=li.k4;have a3:=li.c0;have a4:=li.c1;have a5:=li.f0;have a6:=li.ft;have a7:=li.t1
  refine List.mem_flatMap.2 ⟨(x.2.1.1-1).toNat,List.mem_range.2 (by omega),List.mem_flatMap.2 ⟨(x.2.1.2+w).toNat,List.mem_range.2 (by omega),List.mem_filterMap.2 ⟨x.2.2.1.toNat,List.mem_range.2 (by omega),?_⟩⟩⟩
  unfold atL
  have e1:(((x.2.1.1-1).toNat:Nat):Int)+1=x.2.1.1:=by omega
  have e2:(((x.2.1.2+w).toNat:Nat):Int)-(w:Int)=x.2.1.2:=by omega
  have e3:((x.2.2.1.toNat:Nat):Int)=x.2.2.1:=by omega
  rw[e1,e2,e3]
  exact lkT_mem t.key hx
def NxP (p q:(Int×Int)×(Int×Int)):Prop:=p.1.1<q.1.1∨p.1.1=q.1.1∧(p.1.2<q.1.2∨p.1.2=q.1.2∧p.2.2≤q.2.1)
theorem adj_pw' {α:Type} {r:α→α→Bool} {P:α→Prop} (tr:∀x y z,P y→r x y=true→r y z=true→r x z=true):∀ {l:List α},(∀x∈l,P x)→adj r l=true→l.Pairwise fun x y=>r x y=true
 | [],_,_=>List.Pairwise.nil
 | x::l,hP,h=>by
   simp only[adj,Bool.and_eq_true] at h
   have ih:=adj_pw' tr (fun y hy=>hP y (List.mem_cons_of_mem _ hy)) h.2
   refine List.pairwise_cons.2 ⟨fun y hy=>?_,ih⟩
   cases l with
   | nil=>cases hy
   | cons z l=>
     rcases List.mem_cons.1 hy with e | hy
     ·rw[e];exact h.1
     ·exact tr _ _ _ (hP z (List.mem_cons_of_mem _ List.mem_cons_self)) h.1 ((List.pairwise_cons.1 ih).1 y hy)
theorem walk_pw (t:Tab w h T):(walkS T w h).Pairwise fun x y=>NxP x.2 y.2:=by
 refine(adj_pw' (P:=fun x=>x.2.2.1<x.2.2.2) (fun x y z hy h1 h2=>?_) (fun x hx=>(t.li ((walk_mem t).1 hx)).ft) t.wk).imp fun h=>nxt_iff.1 h
 rw[nxt_iff] at *
 unfold Nx at *
 omega
theorem walk_nodup (t:Tab w h T):(walkS T w h).Nodup:=by
 have hp:=walk_pw t
 have:(walkS T w h).Pairwise fun x y=>x∈walkS T w h∧NxP x.2 y.2:=by
  rw[List.pairwise_iff_getElem] at hp ⊢
  exact fun i j hi hj hij=>⟨List.getElem_mem _,hp i j hi hj hij⟩
 refine this.imp fun {a b} ⟨hm,h⟩ e=>?_
 subst e
 have:=(t.li ((walk_mem t).1 hm)).ft
 unfold NxP at h
 omega
theorem walk_perm (t:Tab w h T):(walkS T w h).Perm T:=by
 have n2:T.Nodup:=List.Pairwise.of_map _ (fun a b h e=>h (by rw[e])) t.ndU
 exact(List.perm_ext_iff_of_nodup (walk_nodup t) n2).2 fun c=>walk_mem t
end
def goes (c e:SgT):Prop:=c.1=e.1∧c.2.1=e.2.1∧c.2.2.2=e.2.2.1
instance (c e:SgT):Decidable (goes c e):=by unfold goes;exact inferInstance
def stepG (s:List SgT×Option SgT) (e:SgT):List SgT×Option SgT:=
 match s.2 with
 | none=>(s.1,if e.1≠0 then some e else none)
 | some c=>if e.1≠0∧goes c e then(s.1,some (c.1,(c.2.1,(c.2.2.1,e.2.2.2)))) else(s.1++[c],if e.1≠0 then some e else none)
def runG:List SgT×Option SgT→List SgT→List SgT
 | s,[]=>s.1++s.2.toList
 | s,e::l=>runG (stepG s e) l
theorem run_flush {out:List SgT} {c:SgT}:∀ {l:List SgT},(∀e,l.head?=some e→¬goes c e)→runG (out,some c) l=runG (out++[c],none) l
 | [],_=>by simp[runG]
 | e::l,h=>by
   have:=h e rfl
   simp only[runG,stepG,this,and_false,if_false]
theorem run_filter:∀(l:List SgT) (out:List SgT) (cur:Option SgT),(∀e∈l,e.2.2.1<e.2.2.2)→l.Pairwise (fun x y=>NxP x.2 y.2)→(∀c,cur=some c→∀e∈l,NxP c.2 e.2)→
  runG (out,cur) l=runG (out,cur) (l.filter fun e=>decide (e.1≠0))
 | [],_,_,_,_,_=>rfl
 | e::l,out,cur,hf,hp,hc=>by
   obtain⟨hp1,hp2⟩:=List.pairwise_cons.1 hp
   have hf2:∀e∈l,e.2.2.1<e.2.2.2:=fun x hx=>hf x (List.mem_cons_of_mem _ hx)
   have fe:=hf e List.mem_cons_self
   by_cases h0:e.1=0
   ·rw[List.filter_cons_of_neg (by simp[h0])]
    cases cur with
    | none=>
      have es:stepG (out,none) e=(out,none):=by simp[stepG,h0]
      rw[runG,es]
      exact run_filter l out none hf2 hp2 (fun c h=>by cases h)
    | some c=>
      have es:stepG (out,some c) e=(out++[c],none):=by simp[stepG,h0]
      rw[runG,es,run_filter l _ none hf2 hp2 (fun c h=>by cases h)]
      refine(run_flush fun v hv=>?_).symm
      have hm:=List.mem_of_mem_head? (by rw[hv];rfl:v∈(l.filter fun e=>decide (e.1≠0)).head?)
      have hm:=(List.mem_filter.1 hm).1
      rintro ⟨g1,g2,g3⟩
      have n1:=hc c rfl e List.mem_cons_self
      have n2:=hp1 v hm
      have e1:c.2.1.1=v.2.1.1:=by rw[g2]
      have e2:c.2.1.2=v.2.1.2:=by rw[g2]
      unfold NxP at n1 n2
      omega
   ·rw[List.filter_cons_of_pos (by simp[h0])]
    simp only[runG]
    rcases hs:stepG (out,cur) e with⟨o2,c2⟩
    refine run_filter l o2 c2 hf2 hp2 fun d hd v hv=>?_
    have n2:=hp1 v hv
    have:d.2.1=e.2.1∧d.2.2.2=e.2.2.2:=by
     unfold stepG at hs
     cases cur with
     | none=>
       simp only[ne_eq,h0,not_false_eq_true,if_true,Prod.mk.injEq] at hs
       rw[hd] at hs
       cases hs.2
       exact⟨rfl,rfl⟩
     | some c=>
       simp only[ne_eq,h0,not_false_eq_true,if_true,true_and] at hs
       split at hs
       ·rename_i g
        simp only[Prod.mk.injEq] at hs
        rw[hd] at hs
        cases hs.2
        exact⟨g.2.1,rfl⟩
       ·simp only[Prod.mk.injEq] at hs
        rw[hd] at hs
        cases hs.2
        exact⟨rfl,rfl⟩
    have e1:d.2.1.1=e.2.1.1:=by rw[this.1]
    have e2:d.2.1.2=e.2.1.2:=by rw[this.1]
    unfold NxP at n2 ⊢
    omega
def kW (K:UnT→Int) (l:List LiT):List SgT:=l.map fun x=>(K x.1,x.2)
def segR (T:List LiT) (w h:Nat) (K:UnT→Int):List SgT:=runG ([],none) (kW K (walkS T w h))
end X
end Go.Vm
namespace Go.Vm
namespace X
open W Go.RowKit
def enc:Option SgT→Int×(Int×(Int×(Int×Int)))
 | none=>(0,(0,(0,(0,0))))
 | some c=>(c.1,(c.2.1.1,(c.2.1.2,(c.2.2.1,c.2.2.2))))
theorem step_ext {out:List SgT} {c e:SgT} (h0:e.1≠0) (hg:goes c e):stepG (out,some c) e=(out,some (c.1,(c.2.1,(c.2.2.1,e.2.2.2)))):=by simp only[stepG];rw[if_pos ⟨h0,hg⟩]
theorem step_n1 {out:List SgT} {e:SgT} (h0:e.1≠0):stepG (out,none) e=(out,some e):=by simp only[stepG];rw[if_pos h0]
section
variable {w h:Nat} {T:List LiT}
end
end X
end Go.Vm
namespace Go.Vm
namespace X
open W Go.RowKit
section
variable {w h:Nat} {T:List LiT}
theorem lies_ok (t:Tab w h T) {x:LiT} (hx:x∈T):segments_lies fuel (((w:Int),(h:Int)),x.1)=some ((x.2.1,x.2.2.1),x.2.2.2):=by
 have:=List.all_eq_true.1 t.lie x hx
 unfold lieOK at this
 split at this
 ·rename_i r hr
  rw[show((x.1.1,x.1.2):UnT)=x.1 from rfl] at hr
  rw[hr]
  simp only[Bool.and_eq_true,decide_eq_true_eq] at this
  obtain⟨⟨⟨a1,a2⟩,a3⟩,a4⟩:=this
  rw[show r=((r.1.1,r.1.2),r.2) from rfl,show r.1.1=x.2.1 from Prod.ext a1 a2,a3,a4]
 ·cases this
def segC (T:List LiT) (c:CreT):SgT:=(c.2.2,((T.find? fun x=>decide (x.1=unitC c)).map (·.2)).getD ((0,0),(0,0)))
theorem segC_at (t:Tab w h T) {c:CreT} {x:LiT} (hx:x∈T) (e:x.1=unitC c):segC T c=(c.2.2,x.2):=by
 unfold segC
 have:T.find? (fun x=>decide (x.1=unitC c))=some x:=by
  cases hf:T.find? (fun x=>decide (x.1=unitC c)) with
  | none=>exact absurd (by simpa using e) (List.find?_eq_none.1 hf x hx)
  | some y=>
    have h1:=List.mem_of_find?_eq_some hf
    have h2:=List.find?_some hf
    rw[t.unitInj h1 hx (by rw[e];simpa using h2)]
 rw[this]
 rfl
def segF (T:List LiT) (w h:Nat) (K:UnT→Int):List SgT:=(kW K (walkS T w h)).filter fun e=>decide (e.1≠0)
theorem kW_pw (t:Tab w h T) (K:UnT→Int):(kW K (walkS T w h)).Pairwise fun x y=>NxP x.2 y.2:=List.pairwise_map.2 (walk_pw t)
theorem kW_mem (t:Tab w h T) {K:UnT→Int} {e:SgT} (he:e∈kW K (walkS T w h)):∃x∈T,e=(K x.1,x.2):=by
 obtain⟨x,hx,rfl⟩:=List.mem_map.1 he
 exact⟨x,(walk_mem t).1 hx,rfl⟩
theorem segR_F (t:Tab w h T) (K:UnT→Int):segR T w h K=runG ([],none) (segF T w h K):=
 run_filter _ _ _ (fun e he=>by obtain⟨x,hx,rfl⟩:=kW_mem t he;exact(t.li hx).ft) (kW_pw t K) (fun c h=>by cases h)
theorem segF_sorted (t:Tab w h T) (K:UnT→Int):(segF T w h K).Pairwise fun a b=>cfG a b<0:=by
 have hp:(segF T w h K).Pairwise fun x y=>NxP x.2 y.2:=(kW_pw t K).filter _
 have:(segF T w h K).Pairwise fun x y=>(x∈segF T w h K∧y∈segF T w h K)∧NxP x.2 y.2:=by
  rw[List.pairwise_iff_getElem] at hp ⊢
  exact fun i j hi hj hij=>⟨⟨List.getElem_mem _,List.getElem_mem _⟩,hp i j hi hj hij⟩
 refine this.imp fun {a b} ⟨⟨ha,hb⟩,hn⟩=>?_
 obtain⟨x,hx,rfl⟩:=kW_mem t (List.mem_filter.1 ha).1
 obtain⟨y,hy,rfl⟩:=kW_mem t (List.mem_filter.1 hb).1
 have lx:=t.li hx
 have ly:=t.li hy
 have b1:=lx.ft
 rw[cfG_lt]
 simp only
 rw[w64 (by have:=lx.k1;omega) (by have:=lx.k4;omega),w64 (by have:=ly.k1;omega) (by have:=ly.k4;omega)]
 unfold NxP at hn
 simp only at hn
 omega
theorem filterMap_cong {α β:Type} {f g:α→Option β}:∀ {l:List α},(∀x∈l,f x=g x)→l.filterMap f=l.filterMap g
 | [],_=>rfl
 | x::l,h=>by
   rw[List.filterMap_cons,List.filterMap_cons,h x List.mem_cons_self,filterMap_cong fun y hy=>h y (List.mem_cons_of_mem _ hy)]
theorem segF_perm (t:Tab w h T) {cr:List CreT} (ho:OutOK T cr):(cr.map (segC T)).Perm (segF T w h (kindIn cr)):=by
 have h1:((filt T cr).map (segC T)).Perm (segF T w h (kindIn cr)):=by
  have e:(filt T cr).map (segC T)=(kW (kindIn cr) T).filter fun e=>decide (e.1≠0):=by
   unfold filt kW
   rw[List.map_filterMap,List.filter_map,←List.filterMap_eq_map,←List.filterMap_eq_filter,List.filterMap_filterMap]
   refine filterMap_cong fun x hx=>?_
   by_cases h0:kindIn cr x.1=0
   ·simp[h0,Option.guard]
   ·simp only[h0,if_false,Option.map_some,Option.guard,Function.comp_apply,ne_eq,not_false_eq_true,decide_true,if_true,Option.bind_some]
    rw[segC_at t hx rfl]
    try rfl
  rw[e]
  exact((walk_perm t).symm.map _).filter _
 exact((filt_perm t ho).map _).trans h1
theorem sortG_ok (t:Tab w h T) {cr:List CreT} (ho:OutOK T cr):sortC cfG (cr.map (segC T))=segF T w h (kindIn cr):=by
 have hs:=segF_sorted t (kindIn cr)
 have hp:=(sortC_perm cfG (cr.map (segC T))).trans (segF_perm t ho)
 refine sortC_uniq cfG (fun x hx y hy h1 h2=>?_) (sortC_sorted cfG swoG _) (hs.imp fun {a b} h c=>by rw[cfG_lt] at *;omega) hp
 have hx:=hp.subset hx
 have hy:=hp.subset hy
 obtain⟨i,hi,rfl⟩:=List.getElem_of_mem hx
 obtain⟨j,hj,rfl⟩:=List.getElem_of_mem hy
 rw[List.pairwise_iff_getElem] at hs
 rcases Nat.lt_trichotomy i j with g | g | g
 ·exact absurd (hs i j hi hj g) h1
 ·subst g;rfl
 ·exact absurd (hs j i hj hi g) h2
theorem okG_ok (t:Tab w h T) {cr:List CreT} (ho:OutOK T cr):okG (cr.map (segC T))=true:=by
 unfold okG
 rw[sortG_ok t ho]
 exact pw_dist (segF_sorted t _)
theorem segF_ne {K:UnT→Int} {e:SgT} (he:e∈segF T w h K):e.1≠0:=by
 have:=(List.mem_filter.1 he).2
 simpa using this
theorem drop_take_all {α:Type} (l:List α) (n:Nat):(l.drop n).take (l.length-n)=l.drop n:=List.take_of_length_le (by simp)
theorem Of_ok (t:Tab w h T) (hw:1≤w∧w≤6) (hh:1≤h∧h≤6) {cr:List CreT} (hck:patterns_Check fuel ((w:Int),((h:Int),cr))=some 0) (ho:OutOK T cr):
  segments_Of fuel ((w:Int),((h:Int),cr))=some (segR T w h (kindIn cr),0):=by
 have hlen:=ho.len t hw.2 hh.2
 apply Ret.eq
 unfold segments_Of
 rw[show(((w:Int),((h:Int),cr)).1,(((w:Int),((h:Int),cr)).2.1,((w:Int),((h:Int),cr)).2.2))=((w:Int),((h:Int),cr)) from rfl,hck,Option.bind_some]
 refine Ret_dec (fun g=>absurd rfl g) fun _=>?_
 refine Ret_chk (by simp only[Bool.and_eq_true,decide_eq_true_eq];omega) ?_
 refine Ret_loop (fun s:List SgT×Int=>∃n:Nat,s.2=(n:Int)∧n≤cr.length∧s.1=(cr.take n).map (segC T)) (fun s=>cr.length-s.2.toNat) ?_ fuel ([],0) ⟨0,rfl,by omega,by simp⟩ (by simp only[fuel];omega)
 rintro ⟨all,n'⟩ rec ⟨n,hn,hnl,hall⟩ hrec
 simp only at hn hall
 subst hn hall
 refine Ret_dec (fun hlt=>?_) fun hge=>?_
 ·have hlt:(n:Int)< (cr.length:Int):=hlt
  have hi:n<cr.length:=by omega
  have hin:inb (n:Int) cr.length=true:=inb_t (by omega) hlt
  refine Ret_chk hin ?_
  simp only
  rw[getD_at hi]
  obtain⟨x,hx,ex⟩:=List.mem_map.1 (ho.sub cr[n] (List.getElem_mem hi))
  rw[show((cr[n].1,cr[n].2.1):UnT)=x.1 from ex.symm,lies_ok t hx,Option.bind_some]
  refine Ret_chk (lenOk_t (by simp only[List.length_map,List.length_take];omega)) (Ret_chk (i64b_t (by omega) (by omega)) (hrec _ ⟨n+1,by simp,hi,?_⟩ (by simp only;omega)))
  simp only
  rw[take_get _ _ hi,List.map_append,List.map_singleton,segC_at t hx ex]
 have hge:¬(n:Int)< (cr.length:Int):=hge
 have:n=cr.length:=by omega
 subst this
 have eS:slices_SortFunc_segments_Segment fuel (((cr.take cr.length).map (segC T),none),((),()))=some ((),((segF T w h (kindIn cr),none),((),()))):=by
  unfold slices_SortFunc_segments_Segment
  have e1:(Nat.ble (List.length (α:=SgT) ((cr.take cr.length).map (segC T))) 1000000&&okG ((cr.take cr.length).map (segC T)))=true:=by
   rw[List.take_length,okG_ok t ho,Bool.and_true,Nat.ble_eq,List.length_map]
   omega
  have e2:=e1
  simp only at e1 ⊢
  rw[e1,List.take_length,sortG_ok t ho]
  rfl
 rw[eS,Option.bind_some]
 have hX0:=segR_F t (kindIn cr)
 have hL0:(segF T w h (kindIn cr)).length≤1000:=by rw[←(segF_perm t ho).length_eq,List.length_map];exact hlen
 have hN0:∀e∈segF T w h (kindIn cr),e.1≠0:=fun e he=>segF_ne he
 simp only
 generalize segR T w h (kindIn cr)=X at hX0 ⊢
 generalize segF T w h (kindIn cr)=F at hX0 hL0 hN0 ⊢
 refine Ret_loop (fun s:List SgT×List SgT=>(∀e∈s.1,e.1≠0)∧runG (s.2,none) s.1=X∧s.2.length+s.1.length≤1000) (fun s=>s.1.length) ?_ fuel (F,[]) ⟨hN0,hX0.symm,by simpa using hL0⟩ (by simp only[fuel];omega)
 clear hX0 hL0 hN0 eS hrec rec
 rintro ⟨all,out⟩ rec5 ⟨hN,hX,hL⟩ hrec5
 simp only at hN hX hL
 cases all with
 | nil=>
   refine Ret_dec (fun g=>absurd g (by simp)) fun _=>?_
   simp only[runG,Option.toList_none,List.append_nil] at hX
   subst hX
   have hb:bnb 0 (out.length:Int) out.length=true:=by unfold bnb;simp
   refine Ret_chk (by simp only[Bool.and_eq_true,decide_eq_true_eq];exact⟨⟨hb,by omega⟩,by omega⟩) (Ret_chk ?_ (Ret_some ?_))
   ·simp[capIs]
   ·simp
 | cons x r=>
   have hb:∀n:Nat,n+1≤(x::r).length→bnb ((n:Int)+1) ((x::r).length:Int) (x::r).length=true:=fun n hn=>by
    unfold bnb
    simp only[Bool.and_eq_true,decide_eq_true_eq]
    omega
   refine Ret_dec (fun _=>?_) fun g=>absurd (by simp only[List.length_cons];omega) g
   refine Ret_chk (inb_t (by omega) (by simp only[List.length_cons];omega)) (Ret_chk (hb 0 (by simp)) ?_)
   generalize hA:x::r=A at hb hrec5 hN hX hL
   have hAl:1≤A.length:=by rw[←hA];simp
   refine Ret_loop (fun s:Int×(Int×(Int×(Int×(Int×(Int×Int)))))=>∃(n:Nat) (y:SgT),s=((n:Int)+1,((n:Int),enc (some y)))∧n+1≤A.length∧y.1≠0∧runG (out,some y) (A.drop (n+1))=X) (fun s=>A.length-s.1.toNat) ?_ fuel _ ⟨0,x,by rw[←hA];rfl,hAl,hN x (by rw[←hA];simp),?_⟩ (by simp only[fuel];omega)
   rotate_left
   ·rw[←hA] at hX ⊢
    rw[←hX]
    have:=hN x (by rw[←hA];simp)
    rw[runG,step_n1 this]
    rfl
   rintro s rec6 ⟨n,y,rfl,hn,hy,hXn⟩ hrec6
   have ex:runG (out++[y],none) (A.drop (n+1))=X→Ret (chk (lenOk (out.length+1)) (chk (bnb ((n:Int)+1) (A.length:Int) A.length) (rec5 (((A.drop ((n:Int)+1).toNat).take (A.length-((n:Int)+1).toNat)),(out++[y]))))) fun x=>x=(X,0):=fun hx=>by
    refine Ret_chk (lenOk_t (by omega)) (Ret_chk (hb n hn) (hrec5 _ ⟨?_,?_,?_⟩ ?_))
    ·intro e he
     simp only[drop_take_all] at he
     exact hN e (List.mem_of_mem_drop he)
    ·simp only[drop_take_all]
     rw[show((n:Int)+1).toNat=n+1 by omega]
     exact hx
    ·simp only[drop_take_all,List.length_append,List.length_singleton,List.length_drop]
     omega
    ·simp only[drop_take_all,List.length_drop]
     omega
   have hd1:(A.drop 1).take (A.length-1)=A.drop 1:=drop_take_all A 1
   have hdl:((A.drop 1).take (A.length-1)).length=A.length-1:=by rw[hd1,List.length_drop]
   refine Ret_dec (fun hlt=>?_) fun hge=>?_
   ·have hlt:(n:Int)< (((A.drop 1).take (A.length-1)).length:Int):=hlt
    have hn2:n+1<A.length:=by omega
    refine Ret_chk (inb_t (Int.natCast_nonneg n) hlt) ?_
    have hg:((A.drop 1).take (A.length-1)).getD ((n:Int).toNat) (0,((0,0),(0,0)))=A[n+1]:=by
     rw[getD_at (by omega)]
     simp only[hd1,List.getElem_drop]
     congr 1
     omega
    have hd:=drop_cons hn2
    have fl:¬goes y A[n+1]→runG (out++[y],none) (A.drop (n+1))=X:=fun hg=>by
     rw[←hXn]
     exact(run_flush fun e he=>by rw[hd] at he;cases he;exact hg).symm
    rw[hd] at hXn
    simp only
    rw[hg]
    generalize A[n+1]=z at hXn hg fl ⊢
    refine Ret_dec (fun g=>ex (fl fun h=>g h.1.symm)) fun g1=>?_
    refine Ret_bif (fun g=>ex (fl fun h=>?_)) fun g2=>?_
    ·have e1:z.2.1.1=y.2.1.1:=by rw[h.2.1]
     have e2:z.2.1.2=y.2.1.2:=by rw[h.2.1]
     simp[enc,e1,e2] at g
    refine Ret_dec (fun g=>ex (fl fun h=>g h.2.2.symm)) fun g3=>?_
    have g1:z.1=y.1:=Classical.not_not.1 g1
    have g3:z.2.2.1=y.2.2.2:=Classical.not_not.1 g3
    have g2:z.2.1.1=y.2.1.1∧z.2.1.2=y.2.1.2:=by
     by_cases u1:z.2.1.1=y.2.1.1<;>by_cases u2:z.2.1.2=y.2.1.2<;>simp[enc,u1,u2] at g2 ⊢
    have hgo:goes y z:=⟨g1.symm,Prod.ext g2.1.symm g2.2.symm,g3.symm⟩
    have hz:z.1≠0:=by rw[g1];exact hy
    rw[runG,step_ext hz hgo] at hXn
    exact Ret_chk (i64b_t (by omega) (by omega)) (Ret_chk (i64b_t (by omega) (by omega)) (hrec6 _ ⟨n+1,(y.1,(y.2.1,(y.2.2.1,z.2.2.2))),by simp[enc],hn2,hy,hXn⟩ (by simp only;omega)))
   ·have hge:¬(n:Int)< (((A.drop 1).take (A.length-1)).length:Int):=hge
    refine ex ?_
    rw[←hXn]
    have:A.drop (n+1)=[]:=List.drop_of_length_le (by omega)
    rw[this]
    simp[runG]
end
end X
end Go.Vm
namespace Go.Vm
namespace X
open W Go.RowKit Go.Proofs.Un
section
variable {w h:Nat} {T:List LiT}
theorem nb_eq:In.sheets_Neighbour=sheets_Neighbour:=rfl
theorem cnt_eq:In.sheets_Count=sheets_Count:=rfl
theorem listU:∀(l acc:List UnT),acc.length+l.length≤1000→
  listF (fun(x2:((List (Int×Int))×Unit))=>chk (bnb 0 ((x2.1.length:Nat):Int) x2.1.length&&decide (((x2.1.length:Nat):Int)≤((x2.1.length:Nat):Int))&&decide (((x2.1.length:Nat):Int)≤((x2.1.length:Nat):Int))) (chk ((Nat.beq 0 0)&&(capIs (some x2.1.length) (x2.1.take x2.1.length).length)) (some ((x2.1.take x2.1.length),(0:Int))))) (fun y2 rec2 x2=>chk (lenOk (x2.1.length+1)) (rec2 ((x2.1++[(y2.1,y2.2)]),()))) l (acc,())=some (acc++l,0)
 | [],acc,_=>by
   simp[listF,chk,bnb,capIs]
 | y::l,acc,h=>by
   simp only[List.length_cons] at h
   simp only[listF]
   rw[lenOk_t (by omega),listU l (acc++[(y.1,y.2)]) (by simp only[List.length_append,List.length_singleton];omega)]
   simp[chk]
theorem Count_ok (hw:1≤w∧w≤6) (hh:1≤h∧h≤6):sheets_Count fuel ((w:Int),(h:Int))=some ((4*w*h:Nat):Int):=by
 have hwh:w*h≤6*6:=Nat.mul_le_mul hw.2 hh.2
 have e:4* (w:Int)* (h:Int)=((4*w*h:Nat):Int):=by simp
 have e2:4*w*h=4* (w*h):=Nat.mul_assoc _ _ _
 unfold sheets_Count
 simp only
 rw[sheet_Check_ok hw hh,Option.bind_some]
 simp only[ne_eq,not_true_eq_false,decide_false,cond_false]
 rw[e,i64b_t (by omega) (by omega),i64b_t (by omega) (by omega)]
 rfl
theorem unit_mem (t:Tab w h T) (hw:1≤w∧w≤6) (hh:1≤h∧h≤6) {u:UnT}:u∈T.map (·.1)↔∃i,i<12*w*h∧unP w h i=true∧u=(((i / 3:Nat):Int),((i%3:Nat):Int)):=by
 have hwh:w*h≤6*6:=Nat.mul_le_mul hw.2 hh.2
 have e2:12*w*h=12* (w*h):=Nat.mul_assoc _ _ _
 have e3:4*w*h=4* (w*h):=Nat.mul_assoc _ _ _
 have hu:=t.us
 unfold sheets_Units at hu
 simp only at hu
 rw[sheet_Check_ok hw hh,Option.bind_some] at hu
 simp only[ne_eq,not_true_eq_false,decide_false,cond_false] at hu
 cases hr:unRun (((w:Int),(h:Int)),()) with
 | none=>rw[hr] at hu;cases hu
 | some L=>
   have hL:L=(unI w h (12*w*h)).map fun(i:Nat)=>(((i / 3:Nat):Int),((i%3:Nat):Int)):=by
    unfold unRun at hr
    rw[cnt_eq] at hr
    simp only at hr
    rw[Count_ok hw hh] at hr
    simp only[Int.toNat_natCast] at hr
    rw[show 3* (4*w*h)=12*w*h by omega] at hr
    cases hk:okU (w:Int) (h:Int) ((4*w*h:Nat):Int) with
    | true=>rw[hk] at hr;exact(Option.some.inj hr).symm
    | false=>rw[hk] at hr;cases hr
   have hLl:L.length≤1000:=by
    rw[hL,List.length_map]
    have:=List.length_filter_le (unP (w:Int) (h:Int)) (List.range (12*w*h))
    unfold unI
    rw[List.length_range] at this
    omega
   rw[hr,Option.bind_some,listU L [] (by simpa using hLl)] at hu
   have hT:T.map (·.1)=L:=by simpa using hu.symm
   rw[hT,hL]
   unfold unI
   simp only[List.mem_map,List.mem_filter,List.mem_range]
   constructor
   ·rintro ⟨i,⟨h1,h2⟩,rfl⟩
    exact⟨i,h1,h2,rfl⟩
   ·rintro ⟨i,h1,h2,rfl⟩
    exact⟨i,⟨h1,h2⟩,rfl⟩
theorem nb_at (t:Tab w h T) {i:Nat} (hi:i<12*w*h):∃n er,sheets_Neighbour fuel (((w:Int),(h:Int)),(((i / 3:Nat):Int),((i%3:Nat):Int)))=some (n,er)∧nbV w h i=some (n,er)∧(er≠0∨n≠((i / 3:Nat):Int)):=by
 have:=List.all_eq_true.1 t.nb i (List.mem_range.2 hi)
 unfold nbOK at this
 split at this
 ·rename_i n er hn
  refine⟨n,er,?_,hn,by simpa using this⟩
  rw[←nb_eq]
  exact hn
 ·cases this
theorem Name_yes (t:Tab w h T) (hw:1≤w∧w≤6) (hh:1≤h∧h≤6) {u:UnT} (hu:u∈T.map (·.1)):sheets_Name fuel (((w:Int),(h:Int)),u)=some (u,0):=by
 obtain⟨i,hi,hp,rfl⟩:=(unit_mem t hw hh).1 hu
 obtain⟨n,er,h1,h2,h3⟩:=nb_at t hi
 unfold unP at hp
 rw[h2] at hp
 simp only[Bool.and_eq_true,decide_eq_true_eq] at hp
 obtain⟨rfl,hp⟩:=hp
 unfold sheets_Name
 simp only
 rw[h1,Option.bind_some]
 simp only[ne_eq,not_true_eq_false,decide_false,cond_false]
 rw[show min (((i / 3:Nat):Int)) n=((i / 3:Nat):Int) by omega]
theorem Name_no (t:Tab w h T) (hw:1≤w∧w≤6) (hh:1≤h∧h≤6) {u:UnT} (h0:0≤u.2) (hu:u∉T.map (·.1)):∃r,sheets_Name fuel (((w:Int),(h:Int)),u)=some r∧(r.2≠0∨r.1.1≠u.1):=by
 have hwh:w*h≤6*6:=Nat.mul_le_mul hw.2 hh.2
 have e2:12*w*h=12* (w*h):=Nat.mul_assoc _ _ _
 have e3:4*w*h=4* (w*h):=Nat.mul_assoc _ _ _
 have e:4* (w:Int)* (h:Int)=((4*w*h:Nat):Int):=by simp
 by_cases hc:0≤u.1∧u.1< ((4*w*h:Nat):Int)
 rotate_left
 ·
  have hcell:sheets_Cell fuel (((w:Int),(h:Int)),u.1)=some ((0,(0,0)),7):=by
   unfold sheets_Cell
   simp only
   rw[sheet_Check_ok hw hh,Option.bind_some]
   simp only[ne_eq,not_true_eq_false,decide_false,cond_false]
   by_cases g:0≤u.1
   ·have:¬u.1< ((4*w*h:Nat):Int):=fun h=>hc ⟨g,h⟩
    rw[e,i64b_t (by omega) (by omega),i64b_t (by omega) (by omega)]
    simp only[chk,cond_true,g,decide_true,this,decide_false,Bool.not_false]
   ·simp only[g,decide_false,cond_false]
  refine⟨((0,0),7),?_,.inl (by decide)⟩
  unfold sheets_Name sheets_Neighbour
  simp only
  rw[hcell,Option.bind_some]
  rfl
 obtain⟨hc0,hc1⟩:=hc
 by_cases he:2<u.2
 ·
  obtain⟨n,er,h1,_,_⟩:=nb_at t (i:=3*u.1.toNat) (by omega)
  rw[show(((3*u.1.toNat / 3:Nat):Nat):Int)=u.1 by omega] at h1
  unfold sheets_Neighbour at h1
  simp only at h1
  cases hcl:sheets_Cell fuel (((w:Int),(h:Int)),u.1) with
  | none=>rw[hcl] at h1;cases h1
  | some r1=>
    unfold sheets_Name sheets_Neighbour
    simp only
    rw[hcl,Option.bind_some]
    by_cases g:r1.2=0
    ·have hcn:cells_Neighbour fuel ((r1.1.1,(r1.1.2.1,r1.1.2.2)),u.2)=some ((0,(0,0)),1):=by
      unfold cells_Neighbour
      simp only[he,decide_true,cond_true]
      cases decide (r1.1.1 < -4096)<;>cases decide (4096<r1.1.1)<;>cases decide (r1.1.2.1 < -4096)<;>cases decide (4096<r1.1.2.1)<;>cases decide (3<r1.1.2.2)<;>rfl
     simp only[g,ne_eq,not_true_eq_false,decide_false,cond_false]
     rw[hcn,Option.bind_some]
     exact⟨_,rfl,.inl (by decide)⟩
    ·simp only[g,ne_eq,not_false_eq_true,decide_true,cond_true,Option.bind_some]
     exact⟨_,rfl,.inl g⟩
 obtain⟨n,er,h1,h2,h3⟩:=nb_at t (i:=3*u.1.toNat+u.2.toNat) (by omega)
 have ei:(((3*u.1.toNat+u.2.toNat) / 3:Nat):Int)=u.1:=by omega
 have ej:(((3*u.1.toNat+u.2.toNat)%3:Nat):Int)=u.2:=by omega
 rw[ei,ej] at h1
 rw[ei] at h3
 unfold sheets_Name
 simp only
 rw[h1,Option.bind_some]
 by_cases g:er=0
 ·subst g
  simp only[ne_eq,not_true_eq_false,decide_false,cond_false]
  refine⟨_,rfl,.inr ?_⟩
  have hnp:¬u.1<n:=fun hn=>hu ((unit_mem t hw hh).2 ⟨3*u.1.toNat+u.2.toNat,by omega,by unfold unP;rw[h2];simp only[decide_true,Bool.true_and,decide_eq_true_eq];omega,Prod.ext ei.symm ej.symm⟩)
  have h3:n≠u.1:=h3.resolve_left (by simp)
  simp only
  omega
 ·simp only[g,ne_eq,not_false_eq_true,decide_true,cond_true]
  exact⟨_,rfl,.inl g⟩
end
end X
end Go.Vm
namespace Go.Vm
namespace X
open W Go.RowKit Go.Proofs.Un
def kOK (c:CreT):Prop:=1≤c.2.2∧c.2.2≤3
def ltU (u v:UnT):Prop:=u.1<v.1∨u.1=v.1∧u.2<v.2
def AscTo (cr:List CreT) (n:Nat):Prop:=∀j (h:j+1<cr.length),j+1<n→ltU (unitC cr[j]) (unitC cr[j+1])
open Classical in
noncomputable def chkR (T:List LiT) (cr:List CreT):Int:=if ∀c∈cr,kOK c then(if ∀c∈cr,unitC c∈T.map (·.1) then(if AscTo cr cr.length then 0 else 6) else 7) else 1
section
variable {w h:Nat} {T:List LiT}
theorem getElem_take_mem {α:Type} {l:List α} {i:Nat} (hi:i<l.length) {c:α} (hc:c∈l.take (i+1)):c∈l.take i∨c=l[i]:=by
 rw[take_get _ _ hi] at hc
 rcases List.mem_append.1 hc with hc | hc
 ·exact .inl hc
 ·exact .inr (List.mem_singleton.1 hc)
theorem Contains_ok {cr:List CreT} (hl:cr.length≤1000000):∃b,slices_ContainsFunc_patterns_Crease fuel (cr,())=some b∧(b=false↔∀c∈cr,kOK c):=by
 have:∃r,slices_IndexFunc_patterns_Crease fuel (cr,())=some r∧(r<0↔∀c∈cr,kOK c):=by
  suffices hs:Ret (slices_IndexFunc_patterns_Crease fuel (cr,())) fun r=>(r<0↔∀c∈cr,kOK c) from hs.imp fun r h=>h
  unfold slices_IndexFunc_patterns_Crease
  refine Ret_loop (fun i:Int=>0≤i∧i≤cr.length∧∀c∈cr.take i.toNat,kOK c) (fun i=>cr.length-i.toNat) ?_ fuel 0 ⟨by omega,by omega,by simp⟩ (by simp only[fuel];omega)
  rintro i' rec ⟨i0,i1,hno⟩ hrec
  obtain⟨i,rfl⟩:∃i:Nat,i'=(i:Int):=⟨i'.toNat,by omega⟩
  rw[Int.toNat_natCast] at hno
  refine Ret_dec (fun hlt=>?_) fun hge=>?_
  ·have hlt:(i:Int)< (cr.length:Int):=hlt
   have hi:i<cr.length:=by omega
   refine Ret_chk (inb_t i0 hlt) ?_
   simp only
   rw[getD_at hi]
   have bad:¬kOK cr[i]→((i:Int)<0↔∀c∈cr,kOK c):=fun hb=>⟨fun g=>absurd g (by omega),fun g=>absurd (g _ (List.getElem_mem hi)) hb⟩
   refine Ret_dec (fun g1=>Ret_bif (fun g2=>Ret_some (bad ?_)) fun g2=>?_) fun g1=>Ret_some (bad fun g=>g1 g.1)
   ·intro g
    have:=g.2
    simp[this] at g2
   ·have hk:kOK cr[i]:=⟨g1,by simpa using g2⟩
    refine Ret_chk (i64b_t (by omega) (by omega)) (hrec _ ⟨by omega,by omega,fun c hc=>?_⟩ (by omega))
    rw[show((i:Int)+1).toNat=i+1 by omega] at hc
    rcases getElem_take_mem hi hc with hc | rfl
    ·exact hno c hc
    ·exact hk
  ·have hge:¬(i:Int)< (cr.length:Int):=hge
   rw[List.take_of_length_le (by omega)] at hno
   exact Ret_some ⟨fun _=>hno,fun _=>by decide⟩
 obtain⟨r,hr,hi⟩:=this
 refine⟨decide (0≤r),?_,?_⟩
 ·unfold slices_ContainsFunc_patterns_Crease
  rw[hr,Option.bind_some]
 ·rw[decide_eq_false_iff_not,←hi];omega
theorem mem_unit {u:UnT} (t:Tab w h T) (hw:1≤w∧w≤6) (hh:1≤h∧h≤6) (hu:u∈T.map (·.1)):0≤u.1∧u.1≤1000∧0≤u.2∧u.2≤2:=by
 obtain⟨x,hx,rfl⟩:=List.mem_map.1 hu
 have li:=t.li hx
 have h1:=li.u0;have h2:=li.u1;have h3:=li.e0;have h4:=li.e2
 have:w*h≤6*6:=Nat.mul_le_mul hw.2 hh.2
 have e:(4* (w:Int)*h)=4* ((w*h:Nat):Int):=by rw[Int.natCast_mul,Int.mul_assoc]
 omega
theorem asc_next {cr:List CreT} {i:Nat} (h:AscTo cr (i+1)) (hi:i+1<cr.length) (hl:ltU (unitC cr[i]) (unitC cr[i+1])):AscTo cr (i+2):=fun j hj hjn=>by
 by_cases e:j=i
 ·subst e;exact hl
 ·exact h j hj (by omega)
theorem Check_pat (t:Tab w h T) (hw:1≤w∧w≤6) (hh:1≤h∧h≤6) {cr:List CreT} (hl:cr.length≤1000000) (hu:∀c∈cr,0≤c.2.1):patterns_Check fuel ((w:Int),((h:Int),cr))=some (chkR T cr):=by
 obtain⟨b,hb,hb2⟩:=Contains_ok hl
 apply Ret.eq
 unfold patterns_Check
 simp only
 rw[sheet_Check_ok hw hh,Option.bind_some,hb,Option.bind_some]
 refine Ret_dec (fun g=>absurd rfl g) fun _=>Ret_bif (fun hbt=>Ret_some ?_) fun hbf=>?_
 ·unfold chkR
  rw[if_neg fun h=>by rw[hb2.2 h] at hbt;cases hbt]
 have hk:=hb2.1 hbf
 unfold chkR
 rw[if_pos hk]
 refine Ret_loop (fun i:Int=>0≤i∧i≤cr.length∧∀c∈cr.take i.toNat,unitC c∈T.map (·.1)) (fun i=>cr.length-i.toNat) ?_ fuel 0 ⟨by omega,by omega,by simp⟩ (by simp only[fuel];omega)
 rintro i' rec ⟨i0,i1,hno⟩ hrec
 obtain⟨i,rfl⟩:∃i:Nat,i'=(i:Int):=⟨i'.toNat,by omega⟩
 rw[Int.toNat_natCast] at hno
 refine Ret_dec (fun hlt=>?_) fun hge=>?_
 ·have hi:i<cr.length:=by omega
  refine Ret_chk (inb_t i0 hlt) ?_
  rw[getD_at hi,show((cr[i].1,cr[i].2.1):UnT)=unitC cr[i] from rfl]
  by_cases hm:unitC cr[i]∈T.map (·.1)
  ·rw[Name_yes t hw hh hm,Option.bind_some]
   refine Ret_dec (fun g=>absurd rfl g) fun _=>Ret_bif (fun g=>by simp[unitC] at g) fun _=>?_
   refine Ret_chk (i64b_t (by omega) (by omega)) (hrec _ ⟨by omega,by omega,fun c hc=>?_⟩ (by omega))
   rw[show((i:Int)+1).toNat=i+1 by omega] at hc
   rcases getElem_take_mem hi hc with hc | rfl
   ·exact hno c hc
   ·exact hm
  ·obtain⟨r,hr,hr2⟩:=Name_no t hw hh (hu _ (List.getElem_mem hi)) hm
   rw[hr,Option.bind_some,if_neg fun h=>hm (h _ (List.getElem_mem hi))]
   refine Ret_dec (fun _=>Ret_some rfl) fun g=>?_
   have hr3:=hr2.resolve_left g
   exact Ret_bif (fun _=>Ret_some rfl) fun g2=>by simp[unitC] at g2 hr3;exact absurd g2.1 hr3
 rw[List.take_of_length_le (by omega)] at hno
 rw[if_pos hno]
 clear hrec i1 hge
 refine Ret_loop (fun i:Int=>∃n:Nat,i=(n:Int)+1∧(n+1≤cr.length∨n=0)∧AscTo cr (n+1)) (fun i=>cr.length+1-i.toNat) ?_ fuel 1 ⟨0,rfl,.inr rfl,fun j hj hjn=>by omega⟩ (by simp only[fuel];omega)
 rintro i' rec ⟨n,rfl,hn,hasc⟩ hrec
 refine Ret_dec (fun hlt=>?_) fun hge=>?_
 ·have hi:n+1<cr.length:=by omega
  have e1:((n:Int)+1-1).toNat=n:=by omega
  refine Ret_chk (i64b_t (by omega) (by omega)) (Ret_chk (inb_t (by omega) (by omega)) (Ret_chk (inb_t (by omega) hlt) ?_))
  have g1:cr.getD ((n:Int)+1-1).toNat (0,(0,0))=cr[n]:=by rw[e1,←getD_at (d:=(0,(0,0))) (show n<cr.length by omega)];rw[Int.toNat_natCast]
  have g2:cr.getD ((n:Int)+1).toNat (0,(0,0))=cr[n+1]:=by rw[←getD_at (d:=(0,(0,0))) hi];rfl
  rw[g1,g2]
  have m1:=mem_unit t hw hh (hno _ (List.getElem_mem (show n<cr.length by omega)))
  have m2:=mem_unit t hw hh (hno _ (List.getElem_mem hi))
  unfold unitC at m1 m2
  simp only at m1 m2
  have ho:∃r,patterns_order fuel ((cr[n].1,cr[n].2.1),(cr[n+1].1,cr[n+1].2.1))=some r∧(0≤r↔¬ltU (unitC cr[n]) (unitC cr[n+1])):=by
   unfold patterns_order ltU unitC
   simp only
   by_cases e:cr[n].1=cr[n+1].1
   ·rw[show(decide (cr[n].1≠cr[n+1].1))=false by simp[e],cond_false,i64b_t (by omega) (by omega),i64b_t (by omega) (by omega),i64b_t (by omega) (by omega)]
    refine⟨_,rfl,?_⟩
    omega
   ·rw[show(decide (cr[n].1≠cr[n+1].1))=true by simp[e],cond_true,i64b_t (by omega) (by omega)]
    refine⟨_,rfl,?_⟩
    omega
  obtain⟨r,hr,hr2⟩:=ho
  rw[hr,Option.bind_some]
  refine Ret_dec (fun g=>Ret_some ?_) fun g=>?_
  ·rw[if_neg (show ¬AscTo cr cr.length from fun h=>hr2.1 g (h n hi hi))]
  ·have hlt2:ltU (unitC cr[n]) (unitC cr[n+1]):=Classical.byContradiction fun hc=>g (hr2.2 hc)
   exact Ret_chk (i64b_t (by omega) (by omega)) (hrec _ ⟨n+1,by simp,by omega,asc_next hasc hi hlt2⟩ (by omega))
 ·refine Ret_some ?_
  rw[if_pos (show AscTo cr cr.length from fun j hj hjn=>hasc j hj (by omega))]
theorem ltU_idx (t:Tab w h T) {a b:Nat} (ha:a<T.length) (hb:b<T.length):ltU T[a].1 T[b].1↔a<b:=by
 have hp:=t.asc
 rw[List.pairwise_iff_getElem] at hp
 have key:∀ {i j:Nat} (hi:i<T.length) (hj:j<T.length),i<j→ltU T[i].1 T[j].1:=fun {i j} hi hj hij=>by
  have:=hp i j (by simpa using hi) (by simpa using hj) hij
  simpa[ltU] using this
 constructor
 ·intro hlt
  rcases Nat.lt_trichotomy a b with g | g | g
  ·exact g
  ·subst g;unfold ltU at hlt;omega
  ·have:=key hb ha g;unfold ltU at hlt this;omega
 ·exact key ha hb
theorem refValid_ok (hw:1≤w∧w≤6) (hh:1≤h∧h≤6):ref05_Valid fuel ((w:Int),(h:Int))=some 1:=by
 have hwh:w*h≤6*6:=Nat.mul_le_mul hw.2 hh.2
 have e:(w:Int)* (h:Int)=((w*h:Nat):Int):=by simp
 unfold ref05_Valid
 simp only
 rw[e]
 simp only[show ¬((w:Int)<1) by omega,show ¬((h:Int)<1) by omega,show ¬((256:Int)<w) by omega,show ¬((256:Int)<h) by omega,show ¬((256:Int)< ((w*h:Nat):Int)) by omega,decide_false,cond_false]
 rw[i64b_t (by omega) (by omega)]
 rfl
theorem refCheck_pat (t:Tab w h T) (hw:1≤w∧w≤6) (hh:1≤h∧h≤6) {cr:List CreT} (hl:cr.length≤1000000):ref06_Check fuel ((w:Int),((h:Int),cr))=some (chkR T cr):=by
 have hlen:=t.len hw.2 hh.2
 apply Ret.eq
 unfold ref06_Check
 simp only
 rw[refValid_ok hw hh,Option.bind_some]
 refine Ret_dec (fun g=>absurd g (by decide)) fun _=>?_
 refine Ret_loop (fun i:Int=>0≤i∧i≤cr.length∧∀c∈cr.take i.toNat,kOK c) (fun i=>cr.length-i.toNat) ?_ fuel 0 ⟨by omega,by omega,by simp⟩ (by simp only[fuel];omega)
 rintro i' rec ⟨i0,i1,hno⟩ hrec
 obtain⟨i,rfl⟩:∃i:Nat,i'=(i:Int):=⟨i'.toNat,by omega⟩
 rw[Int.toNat_natCast] at hno
 refine Ret_dec (fun hlt=>?_) fun hge=>?_
 ·have hi:i<cr.length:=by omega
  have hin:=inb_t i0 hlt
  rw[getD_at hi]
  have bad:¬kOK cr[i]→(1:Int)=chkR T cr:=fun hb=>by
   unfold chkR
   rw[if_neg fun h=>hb (h _ (List.getElem_mem hi))]
  refine Ret_chk hin (Ret_dec (fun g=>Ret_some (bad fun h=>by have:=h.1;omega)) fun g1=>Ret_chk hin (Ret_dec (fun g=>Ret_some (bad fun h=>by have:=h.2;omega)) fun g2=>?_))
  refine Ret_chk (i64b_t (by omega) (by omega)) (hrec _ ⟨by omega,by omega,fun c hc=>?_⟩ (by omega))
  rw[show((i:Int)+1).toNat=i+1 by omega] at hc
  rcases getElem_take_mem hi hc with hc | rfl
  ·exact hno c hc
  ·exact⟨by omega,by omega⟩
 rw[List.take_of_length_le (by omega)] at hno
 unfold chkR
 rw[if_pos hno,t.un,Option.bind_some]
 clear hrec i1 hge
 have hTl:(T.map (·.1)).length=T.length:=List.length_map ..
 refine Ret_loop (fun s:Int×(Int×Int)=>∃n:Nat,s.2.2=(n:Int)∧n≤cr.length∧(∀c∈cr.take n,unitC c∈T.map (·.1))∧(n=0∧s.1= -1∨∃(m a:Nat),∃(hm:m<cr.length) (ha:a<T.length),n=m+1∧s.1=(a:Int)∧T[a].1=unitC cr[m])∧(s.2.1=0∧AscTo cr n∨s.2.1=6∧¬AscTo cr n)) (fun s=>cr.length-s.2.2.toNat) ?_ fuel _ ⟨0,rfl,by omega,by simp,.inl ⟨rfl,rfl⟩,.inl ⟨rfl,fun j hj hjn=>by omega⟩⟩ (by simp only[fuel];omega)
 rintro ⟨la,e,n'⟩ rec ⟨n,hn,hnl,hpre,hla,he⟩ hrec
 simp only at hn hla he
 subst hn
 refine Ret_dec (fun hlt=>?_) fun hge=>?_
 rotate_left
 ·have:n=cr.length:=by simp only at hge;omega
  subst this
  rw[List.take_length] at hpre
  rw[if_pos hpre]
  refine Ret_some ?_
  rcases he with⟨h1,h2⟩ | ⟨h1,h2⟩
  ·rw[if_pos h2];exact h1
  ·rw[if_neg h2];exact h1
 have hi:n<cr.length:=by simp only at hlt;omega
 have hin:inb (n:Int) cr.length=true:=inb_t (by omega) hlt
 simp only
 rw[getD_at hi]
 refine Ret_loop (fun s:Int×Int=>∃k:Nat,s.2=(k:Int)∧k≤T.length∧(s.1= -1∧(∀q (hq:q<T.length),q<k→T[q].1≠unitC cr[n])∨∃a:Nat,∃ha:a<T.length,a<k∧s.1=(a:Int)∧T[a].1=unitC cr[n])) (fun s=>T.length-s.2.toNat) ?_ fuel _ ⟨0,rfl,by omega,.inl ⟨rfl,fun q hq h=>by omega⟩⟩ (by simp only[fuel];omega)
 rintro ⟨at',k'⟩ rec5 ⟨k,hk,hkl,hat⟩ hrec5
 simp only at hk hat
 subst hk
 refine Ret_dec (fun hkt=>?_) fun hkt=>?_
 ·have hkt:(k:Int)< (((T.map (·.1)).length:Nat):Int):=hkt
  rw[hTl] at hkt
  have hk2:k<T.length:=by omega
  have hg:(T.map (·.1)).getD ((k:Int).toNat) (0,0)=T[k].1:=by
   rw[Int.toNat_natCast,List.getD_eq_getElem?_getD,List.getElem?_map,List.getElem?_eq_getElem hk2];rfl
  simp only
  rw[hg]
  refine Ret_chk (inb_t (by omega) (by rw[hTl];exact hkt)) (Ret_chk hin (Ret_chk hin ?_))
  refine Ret_bif (fun g=>?_) fun g=>?_
  ·have hq:T[k].1=unitC cr[n]:=by
    simp only[Bool.and_eq_true,decide_eq_true_eq] at g
    exact Prod.ext g.1 g.2
   exact Ret_chk (i64b_t (by omega) (by omega)) (hrec5 _ ⟨k+1,by simp,hk2,.inr ⟨k,hk2,by omega,rfl,hq⟩⟩ (by simp only;omega))
  ·have hq:T[k].1≠unitC cr[n]:=fun e=>by
    have e1:T[k].1.1=cr[n].1:=by rw[e];rfl
    have e2:T[k].1.2=cr[n].2.1:=by rw[e];rfl
    simp[e1,e2] at g
   refine Ret_chk (i64b_t (by omega) (by omega)) (hrec5 _ ⟨k+1,by simp,hk2,?_⟩ (by simp only;omega))
   rcases hat with⟨h1,h2⟩ | ⟨a,ha,h1,h2,h3⟩
   ·refine .inl ⟨h1,fun q hq hqk=>?_⟩
    by_cases e:q=k
    ·subst e;assumption
    ·exact h2 q hq (by omega)
   ·exact .inr ⟨a,ha,by omega,h2,h3⟩
 ·have hkt:¬(k:Int)< (((T.map (·.1)).length:Nat):Int):=hkt
  rw[hTl] at hkt
  have hk2:k=T.length:=by omega
  subst hk2
  rcases hat with⟨h1,h2⟩ | ⟨a,ha,_,h2,h3⟩
  ·refine Ret_dec (fun _=>Ret_some ?_) fun g=>absurd (by simp only[h1];decide) g
   rw[if_neg fun h=>?_]
   obtain⟨x,hx,ex⟩:=List.mem_map.1 (h _ (List.getElem_mem hi))
   obtain⟨q,hq,rfl⟩:=List.getElem_of_mem hx
   exact h2 q hq hq ex
  ·have hm:unitC cr[n]∈T.map (·.1):=List.mem_map.2 ⟨_,List.getElem_mem ha,h3⟩
   have hpre2:∀c∈cr.take (n+1),unitC c∈T.map (·.1):=fun c hc=>by
    rcases getElem_take_mem hi hc with hc | rfl
    ·exact hpre c hc
    ·exact hm
   have hlast:∃(m a:Nat),∃(hm:m<cr.length) (ha:a<T.length),n+1=m+1∧at'=(a:Int)∧T[a].1=unitC cr[m]:=⟨n,a,hi,ha,rfl,h2,h3⟩
   refine Ret_dec (fun g=>absurd g (by simp only[h2];omega)) fun _=>?_
   refine Ret_dec (fun g=>?_) fun g=>?_
   ·refine Ret_chk (i64b_t (by omega) (by omega)) (hrec _ ⟨n+1,by simp,hi,hpre2,.inr hlast,.inr ⟨rfl,fun h=>?_⟩⟩ (by simp only;omega))
    simp only[h2] at g
    rcases hla with⟨_,g1⟩ | ⟨m,b,hm2,hb,g1,g2,g3⟩
    ·omega
    ·subst g1
     have:=h m hi (by omega)
     rw[←g3,←h3,ltU_idx t hb ha] at this
     omega
   ·simp only[h2] at g
    refine Ret_chk (i64b_t (by omega) (by omega)) (hrec _ ⟨n+1,by simp,hi,hpre2,.inr hlast,?_⟩ (by simp only;omega))
    have hs:∀m,n=m+1→∀hm2:m<cr.length,ltU (unitC cr[m]) (unitC cr[n]):=fun m hnm hm2=>by
     rcases hla with⟨g0,_⟩ | ⟨m2,b,hm3,hb,g1,g2,g3⟩
     ·omega
     ·have:m2=m:=by omega
      subst this
      rw[←g3,←h3,ltU_idx t hb ha]
      omega
    have hiff:AscTo cr (n+1)↔AscTo cr n:=by
     constructor
     ·exact fun h j hj hjn=>h j hj (by omega)
     ·intro h j hj hjn
      by_cases e:j+1=n
      ·subst e
       exact hs j rfl (by omega)
      ·exact h j hj (by omega)
    simp only
    rw[hiff]
    exact he
end
end X
end Go.Vm
namespace Go.Vm
namespace X
open W Go.RowKit Go.Proofs.Un
def ngo (a b:SgT):Bool:= !decide (goes a b)
def RunA (K:UnT→Int) (k:Int) (l:Int×Int):Int→List LiT→Int→Prop
 | p,[],q=>p=q
 | p,x::r,q=>K x.1=k∧x.2.1=l∧x.2.2.1=p∧RunA K k l x.2.2.2 r q
structure Run (K:UnT→Int) (s:SgT) (r:List LiT):Prop where
 ne:r≠[]
 run:RunA K s.1 s.2.1 s.2.2.1 r s.2.2.2
section
variable {w h:Nat} {T:List LiT}
end
section
variable {w h:Nat} {T:List LiT}
end
end X
end Go.Vm
namespace Go.Vm
namespace X
open W Go.RowKit Go.Proofs.Un
structure PatOK (T:List LiT) (cr:List CreT):Prop where
 ok:OutOK T cr
 pw:(cr.map unitC).Pairwise ltU
section
variable {w h:Nat} {T:List LiT}
theorem chkR_0 {cr:List CreT} (ho:PatOK T cr):chkR T cr=0:=by
 unfold chkR
 rw[if_pos (show ∀c∈cr,kOK c from ho.ok.k1),if_pos ho.ok.sub,if_pos]
 intro j hj hjn
 have hp:=List.pairwise_map.1 ho.pw
 rw[List.pairwise_iff_getElem] at hp
 exact hp j (j+1) (by omega) hj (by omega)
theorem asc_pw {cr:List CreT} (h:AscTo cr cr.length):(cr.map unitC).Pairwise ltU:=by
 rw[List.pairwise_map,List.pairwise_iff_getElem]
 have key:∀d i (hi:i+d+1<cr.length),ltU (unitC cr[i]) (unitC cr[i+d+1]):=by
  intro d
  induction d with
  | zero=>exact fun i hi=>h i hi hi
  | succ d ih=>
    intro i hi
    have h1:=ih i (by omega)
    have h2:=h (i+d+1) (by omega) (by omega)
    have e:i+ (d+1)+1=i+d+1+1:=by omega
    simp only[e]
    unfold ltU at *
    omega
 intro i j hi hj hij
 have:=key (j-i-1) i (by omega)
 have e:i+ (j-i-1)+1=j:=by omega
 simp only[e] at this
 exact this
theorem chkR_ok {cr:List CreT} (h0:chkR T cr=0):PatOK T cr:=by
 unfold chkR at h0
 split at h0
 ·rename_i h1
  split at h0
  ·rename_i h2
   split at h0
   ·rename_i h3
    have hp:=asc_pw h3
    exact⟨⟨hp.imp fun {a b} h e=>by subst e;unfold ltU at h;omega,h2,h1⟩,hp⟩
   ·cases h0
  ·cases h0
 ·cases h0
structure SegOK (T:List LiT) (w h:Nat) (cr:List CreT) (X:List SgT):Prop where
 len:X.length≤1000
 un:∀s∈X,(unitsR T s).2=0
 sum:(X.map fun s=>(unitsR T s).1.length).sum=cr.length
 pat:patR T w h X=(((w:Int),((h:Int),cr)),(0,0))
 ng:adj ngo X=true
theorem lv:law07_lives fuel ()=some true:=lives07
theorem Of_P (t:Tab w h T) (hw:1≤w∧w≤6) (hh:1≤h∧h≤6) {cr:List CreT} (ho:PatOK T cr):segments_Of fuel ((w:Int),((h:Int),cr))=some (segR T w h (kindIn cr),0):=by
 have hcl:=ho.ok.len t hw.2 hh.2
 refine Of_ok t hw hh ?_ ho.ok
 rw[Check_pat t hw hh (by omega) fun c hc=>(mem_unit t hw hh (ho.ok.sub c hc)).2.2.1,chkR_0 ho]
end
end X
end Go.Vm
namespace Go.Vm
namespace X
open W Go.RowKit Go.Proofs.Un
theorem Valid_or (s:Int×Int):ref05_Valid fuel s=some 1∧1≤s.1∧1≤s.2∨ref05_Valid fuel s=some 0∧sheets_Check fuel s=some 1:=by
 by_cases h1:s.1<1
 ·exact .inr ⟨by unfold ref05_Valid;simp only[h1,decide_true,cond_true],by unfold sheets_Check;simp only[h1,decide_true,cond_true]⟩
 by_cases h2:s.2<1
 ·exact .inr ⟨by unfold ref05_Valid;simp only[h1,h2,decide_true,decide_false,cond_true,cond_false],by unfold sheets_Check;simp only[h1,h2,decide_true,decide_false,cond_true,cond_false]⟩
 by_cases h3:256<s.1
 ·exact .inr ⟨by unfold ref05_Valid;simp only[h1,h2,h3,decide_true,decide_false,cond_true,cond_false],by unfold sheets_Check;simp only[h1,h2,h3,decide_true,decide_false,cond_true,cond_false]⟩
 by_cases h4:256<s.2
 ·exact .inr ⟨by unfold ref05_Valid;simp only[h1,h2,h3,h4,decide_true,decide_false,cond_true,cond_false],by unfold sheets_Check;simp only[h1,h2,h3,h4,decide_true,decide_false,cond_true,cond_false]⟩
 have hb:i64b (s.1*s.2)=true:=by
  obtain⟨x,hx⟩:∃x:Nat,s.1=(x:Int):=⟨s.1.toNat,by omega⟩
  obtain⟨y,hy⟩:∃y:Nat,s.2=(y:Int):=⟨s.2.toNat,by omega⟩
  have hxy:x*y≤256*256:=Nat.mul_le_mul (by omega) (by omega)
  have e:s.1*s.2=((x*y:Nat):Int):=by rw[hx,hy];simp
  rw[e]
  exact i64b_t (by omega) (by omega)
 by_cases h5:256<s.1*s.2
 ·exact .inr ⟨by unfold ref05_Valid;simp only[h1,h2,h3,h4,decide_false,cond_false];rw[hb];simp only[chk,h5,decide_true,cond_true],by unfold sheets_Check;simp only[h1,h2,h3,h4,decide_false,cond_false];rw[hb];simp only[chk,h5,decide_true,cond_true]⟩
 ·exact .inl ⟨by unfold ref05_Valid;simp only[h1,h2,h3,h4,decide_false,cond_false];rw[hb];simp only[chk,h5,decide_false,cond_true,cond_false],by omega,by omega⟩
theorem SegmentsErrors_true (tab:∀w h:Nat,(1≤w∧w≤5)→(1≤h∧h≤5)→∃T,Tab w h T) {p:PatT} {x:SgT} (hu:∀c∈p.2.2,0≤c.2.1):law07_SegmentsErrors fuel (p,x)=some true:=by
 obtain⟨W,H,cr⟩:=p
 apply Ret.eq
 unfold law07_SegmentsErrors
 simp only
 refine Ret_jn (fun b=>b=true∨cr.length≤20∧(ref05_Valid fuel (W,H)=some 0∧sheets_Check fuel (W,H)=some 1∨ref05_Valid fuel (W,H)=some 1∧1≤W∧W≤5∧1≤H∧H≤5)) (fun b hb=>?_) fun j hj=>?_
 rotate_left
 ·refine Ret_dec (fun _=>hj _ (.inl rfl)) fun hl=>?_
  rcases Valid_or (W,H) with⟨hv,hw,hh⟩ | ⟨hv,hc⟩
  ·rw[hv,Option.bind_some]
   refine Ret_dec (fun _=>Ret_dec (fun _=>hj _ (.inl rfl)) fun hW=>?_) fun g=>absurd rfl g
   by_cases hH:5<H
   ·exact hj _ (.inl (by simp[hH]))
   ·exact hj _ (.inr ⟨by omega,.inr ⟨hv,hw,by omega,hh,by omega⟩⟩)
  ·rw[hv,Option.bind_some]
   refine Ret_dec (fun g=>absurd g (by decide)) fun _=>hj _ (.inr ⟨by omega,.inl ⟨hv,hc⟩⟩)
 refine Ret_bif (fun _=>Ret_some rfl) fun hbf=>?_
 rcases hb with hb | ⟨hl,hb⟩
 ·rw[hb] at hbf;cases hbf
 rcases hb with⟨hv,hc⟩ | ⟨hv,hw,hw5,hh,hh5⟩
 ·have e1:patterns_Check fuel (W,(H,cr))=some 1:=by
   unfold patterns_Check
   simp only
   rw[hc,Option.bind_some]
   rfl
  have e2:segments_Of fuel (W,(H,cr))=some ([],1):=by
   unfold segments_Of
   simp only
   rw[e1,Option.bind_some]
   rfl
  have e3:ref06_Check fuel (W,(H,cr))=some 1:=by
   unfold ref06_Check
   simp only
   rw[hv,Option.bind_some]
   rfl
  have e4:∀y,segments_Units fuel ((W,H),y)=some ([],1):=fun y=>by
   unfold segments_Units
   simp only
   rw[hc,Option.bind_some]
   rfl
  have e5:∀y,segments_Pattern fuel ((W,H),y)=some ((0,(0,[])),(0,1)):=fun y=>by
   unfold segments_Pattern
   simp only
   rw[hc,Option.bind_some]
   rfl
  have e6:∀y,segments_Check fuel ((W,H),y)=some 1:=fun y=>by
   unfold segments_Check
   simp only
   rw[e4,Option.bind_some]
  rw[e2,Option.bind_some,e3,Option.bind_some]
  refine Ret_jn (fun b=>b=false) (fun b hb=>?_) fun j hj=>?_
  ·subst hb
   rw[cond_false,hv,Option.bind_some]
   refine Ret_dec (fun g=>absurd g (by decide)) fun _=>?_
   rw[e4,Option.bind_some,e5,Option.bind_some]
   refine Ret_dec (fun _=>Ret_dec (fun _=>Ret_dec (fun _=>?_) fun g=>absurd (by trivial) g) fun g=>absurd (by trivial) g) fun g=>absurd (by trivial) g
   rw[e6,Option.bind_some]
   exact Ret_dec (fun _=>lives_bind) fun g=>absurd rfl g
  ·exact Ret_dec (fun g=>absurd rfl g) fun _=>Ret_dec (fun _=>hj _ (by simp)) fun g=>absurd (by decide) g
 ·obtain⟨w,rfl⟩:∃w:Nat,W=(w:Int):=⟨W.toNat,by omega⟩
  obtain⟨h,rfl⟩:∃h:Nat,H=(h:Int):=⟨H.toNat,by omega⟩
  obtain⟨T,t⟩:=tab w h (by omega) (by omega)
  have bw:1≤w∧w≤6:=by omega
  have bh:1≤h∧h≤6:=by omega
  have e1:=Check_pat t bw bh (cr:=cr) (by omega) hu
  have e3:=refCheck_pat t bw bh (cr:=cr) (by omega)
  have e2:∃X,segments_Of fuel ((w:Int),((h:Int),cr))=some (X,chkR T cr)∧(chkR T cr≠0→X=[]):=by
   by_cases h0:chkR T cr=0
   ·refine⟨segR T w h (kindIn cr),?_,fun g=>absurd h0 g⟩
    rw[h0]
    exact Of_P t bw bh (chkR_ok h0)
   ·refine⟨[],?_,fun _=>rfl⟩
    unfold segments_Of
    simp only
    rw[e1,Option.bind_some]
    simp only[h0,ne_eq,not_false_eq_true,decide_true,cond_true]
  obtain⟨X,e2,eX⟩:=e2
  rw[e2,Option.bind_some,e3,Option.bind_some]
  refine Ret_jn (fun b=>b=false) (fun b hb=>?_) fun j hj=>?_
  ·subst hb
   rw[cond_false,hv,Option.bind_some]
   exact Ret_dec (fun _=>lives_bind) fun g=>absurd rfl g
  ·refine Ret_dec (fun g=>absurd rfl g) fun _=>Ret_dec (fun g=>hj _ ?_) fun _=>hj _ rfl
   rw[eX g]
   simp
end X
end Go.Vm
