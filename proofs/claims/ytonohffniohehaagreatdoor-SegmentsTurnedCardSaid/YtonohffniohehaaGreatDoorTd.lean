/-
  Segments: what the tables say; the units of a segment.
  Segments: the units of a segment, by the program and by the reference; the law SegmentsUnits.
  Segments: the chapter's examples, run by the kernel.
  Segments: the reference's units; the law SegmentsUnits.
  Segments: patterns out of segments, by the program and by the reference.
  Segments: the program's Pattern and the reference's.
  Segments: the reference's Pattern.
  Segments: the units of all lines in order, and how they grow together.
  Segments: the reference walks along all lines.
  Segments: the program's segments are those of the walk.
  Segments: the names of units; which patterns are valid.
  Segments: the two checks of a pattern.
  Segments: what the segments of a pattern are made of.
  Segments: the law SegmentsPattern.
  Segments: the law SegmentsOf.
  Segments: the law SegmentsTurned.
-/
import Derived.Test.YtonohffniohehaaGreatDoorTa
set_option linter.unusedSimpArgs false
set_option linter.unusedVariables false
set_option linter.unusedSectionVars false
set_option linter.unnecessarySimpa false
namespace Go.Vm
namespace X
open W Go.Proofs.Un
theorem adj_pw {α:Type} {r:α→α→Bool} (tr:∀x y z,r x y=true→r y z=true→r x z=true):∀ {l:List α},adj r l=true→l.Pairwise fun x y=>r x y=true
 | [],_=>List.Pairwise.nil
 | x::l,h=>by
   simp only[adj,Bool.and_eq_true] at h
   have ih:=adj_pw tr h.2
   refine List.pairwise_cons.2 ⟨fun y hy=>?_,ih⟩
   cases l with
   | nil=>cases hy
   | cons z l=>
     rcases List.mem_cons.1 hy with e | hy
     ·rw[e];exact h.1
     ·exact tr _ _ _ h.1 ((List.pairwise_cons.1 ih).1 y hy)
theorem asc2_iff {x y:UnT}:asc2 x y=true↔x.1<y.1∨x.1=y.1∧x.2<y.2:=by
 simp[asc2]
def Nx (x y:LiT):Prop:=x.2.1.1<y.2.1.1∨x.2.1.1=y.2.1.1∧(x.2.1.2<y.2.1.2∨x.2.1.2=y.2.1.2∧x.2.2.2≤y.2.2.1)
theorem nxt_iff {x y:LiT}:nxt x y=true↔Nx x y:=by
 simp[nxt,Nx]
structure LiOK (w h:Nat) (x:LiT):Prop where
 k1:1≤x.2.1.1
 k4:x.2.1.1≤4
 c0: -(w:Int)≤x.2.1.2
 c1:x.2.1.2≤(w:Int)+h
 f0:0≤x.2.2.1
 ft:x.2.2.1<x.2.2.2
 t1:x.2.2.2≤2* ((w:Int)+h)
 u0:0≤x.1.1
 u1:x.1.1<4* (w:Int)*h
 e0:0≤x.1.2
 e2:x.1.2≤2
section
variable {w h:Nat} {T:List LiT}
theorem Tab.li (t:Tab w h T) {x:LiT} (hx:x∈T):LiOK w h x:=by
 have:=List.all_eq_true.1 t.ok x hx
 simp only[okLi,Bool.and_eq_true,decide_eq_true_eq] at this
 obtain⟨⟨⟨⟨⟨⟨⟨⟨⟨⟨a1,a2⟩,a3⟩,a4⟩,a5⟩,a6⟩,a7⟩,a8⟩,a9⟩,a10⟩,a11⟩:=this
 exact⟨a1,a2,a3,a4,a5,a6,a7,a8,a9,a10,a11⟩
theorem Tab.asc (t:Tab w h T):(T.map (·.1)).Pairwise fun x y=>x.1<y.1∨x.1=y.1∧x.2<y.2:=
 (adj_pw (fun x y z h1 h2=>by rw[asc2_iff] at *;omega) t.up).imp fun h=>asc2_iff.1 h
theorem Tab.ndU (t:Tab w h T):(T.map (·.1)).Nodup:=t.asc.imp fun {a b} h e=>by subst e;omega
theorem nodup_inj {α:Type} {l:List α} (h:l.Nodup) {i j:Nat} (hi:i<l.length) (hj:j<l.length) (e:l[i]=l[j]):i=j:=by
 rcases Nat.lt_trichotomy i j with g | g | g
 ·exact absurd e (List.pairwise_iff_getElem.1 h i j hi hj g)
 ·exact g
 ·exact absurd e.symm (List.pairwise_iff_getElem.1 h j i hj hi g)
theorem Tab.unitInj (t:Tab w h T) {x y:LiT} (hx:x∈T) (hy:y∈T) (e:x.1=y.1):x=y:=by
 obtain⟨i,hi,rfl⟩:=List.getElem_of_mem hx
 obtain⟨j,hj,rfl⟩:=List.getElem_of_mem hy
 have h1:(T.map (·.1))[i]'(by simpa using hi)=(T.map (·.1))[j]'(by simpa using hj):=by simpa using e
 have:=nodup_inj t.ndU _ _ h1
 subst this
 rfl
theorem pwB_pw {α:Type} {r:α→α→Bool}:∀ {l:List α},pwB r l=true→l.Pairwise fun x y=>r x y=true
 | [],_=>List.Pairwise.nil
 | x::l,h=>by
   simp only[pwB,Bool.and_eq_true] at h
   exact List.pairwise_cons.2 ⟨fun y hy=>List.all_eq_true.1 h.1 y hy,pwB_pw h.2⟩
theorem Tab.key (t:Tab w h T):KeyD T:=(pwB_pw t.kd).imp fun {x y} h ⟨h1,h2⟩=>by
 simp[keyN,h1,h2] at h
theorem Tab.len (t:Tab w h T) (hw:w≤6) (hh:h≤6):T.length≤1000:=by
 have hn:=t.ndU
 have:(T.map (·.1)).length≤1000:=by
  have hsub:∀u∈T.map (·.1),u∈((List.range 144).flatMap fun(i:Nat)=>(List.range 3).map fun(e:Nat)=>(((i:Nat):Int),((e:Nat):Int))):=by
   intro u hu
   obtain⟨x,hx,rfl⟩:=List.mem_map.1 hu
   have:=t.li hx
   have h1:=this.u0;have h2:=this.u1;have h3:=this.e0;have h4:=this.e2
   have h5:4* (w:Int)*h≤4*6*6:=by
    have:w*h≤6*6:=Nat.mul_le_mul hw hh
    have e:(4* (w:Int)*h)=4* ((w*h:Nat):Int):=by rw[Int.natCast_mul,Int.mul_assoc]
    omega
   refine List.mem_flatMap.2 ⟨x.1.1.toNat,List.mem_range.2 (by omega),List.mem_map.2 ⟨x.1.2.toNat,List.mem_range.2 (by omega),?_⟩⟩
   exact Prod.ext (by simp only;omega) (by simp only;omega)
  have:=hn.length_le_of_subset hsub
  exact Nat.le_trans this (by decide +kernel)
 simpa using this
end
end X
end Go.Vm
namespace Go.Vm
namespace X
open W
def TB (T:List LiT):Prop:=∀x∈T,0≤x.2.2.1∧x.2.2.1<x.2.2.2∧x.2.2.2≤24
theorem Tab.tb {w h:Nat} {T:List LiT} (t:Tab w h T) (hw:w≤6) (hh:h≤6):TB T:=fun x hx=>by
 have:=t.li hx
 exact⟨this.f0,this.ft,by have:=this.t1;omega⟩
def wk (T:List LiT) (l:Int×Int) (tq:Int):Nat→Int→Option (List UnT)
 | 0,_=>none
 | n+1,p=>if p=tq then some [] else match lkT T l p with
   | none=>none
   | some x=>if tq<x.2.2.2 then none else(wk T l tq n x.2.2.2).map (x.1::·)
def mm (p:Int):Nat:=if 0≤p∧p≤24 then(24-p).toNat+1 else 26
theorem wk_st {T:List LiT} (hT:TB T) {l:Int×Int} {tq:Int}:∀(n m:Nat) (p:Int),mm p≤n→mm p≤m→wk T l tq n p=wk T l tq m p
 | 0,_,p,h,_=>by unfold mm at h;split at h<;>omega
 | n+1,0,p,_,h=>by unfold mm at h;split at h<;>omega
 | n+1,m+1,p,hn,hm=>by
   simp only[wk]
   split
   ·rfl
   ·cases hl:lkT T l p with
    | none=>rfl
    | some x=>
      obtain⟨h1,h2,h3⟩:=lkT_some hl
      obtain⟨b1,b2,b3⟩:=hT x h1
      have e:mm x.2.2.2+1≤mm p:=by
       unfold mm
       rw[if_pos (by omega),if_pos (by omega)]
       omega
      simp only
      rw[wk_st hT n m x.2.2.2 (by omega) (by omega)]
def wkS (T:List LiT) (l:Int×Int) (tq p:Int):Option (List UnT):=wk T l tq (mm p) p
theorem wkS_eq {T:List LiT} (hT:TB T) (l:Int×Int) (tq p:Int):wkS T l tq p=if p=tq then some [] else match lkT T l p with
  | none=>none
  | some x=>if tq<x.2.2.2 then none else(wkS T l tq x.2.2.2).map (x.1::·):=by
 unfold wkS
 cases hm:mm p with
 | zero=>unfold mm at hm;split at hm<;>omega
 | succ n=>
   simp only[wk]
   split
   ·rfl
   ·cases hl:lkT T l p with
    | none=>rfl
    | some x=>
      obtain⟨h1,h2,h3⟩:=lkT_some hl
      obtain⟨b1,b2,b3⟩:=hT x h1
      have e:mm x.2.2.2+1≤mm p:=by
       unfold mm
       rw[if_pos (by omega),if_pos (by omega)]
       omega
      simp only
      rw[wk_st hT n (mm x.2.2.2) x.2.2.2 (by omega) (Nat.le_refl _)]
abbrev SgT:=Int×((Int×Int)×(Int×Int))
structure OrdP (x:SgT):Prop where
 k1:1≤x.1
 k3:x.1≤3
 l1:1≤x.2.1.1
 l4:x.2.1.1≤4
 c0: -4096≤x.2.1.2
 c1:x.2.1.2≤4096
 ft:x.2.2.1<x.2.2.2
open Classical in
noncomputable def unitsR (T:List LiT) (x:SgT):List UnT×Int:=if OrdP x then(match wkS T x.2.1 x.2.2.2 x.2.2.1 with
 | none=>([],7)
 | some u=>(u,0)) else([],1)
section
variable {w h:Nat} {T:List LiT}
theorem sheet_Check_ok (hw:1≤w∧w≤6) (hh:1≤h∧h≤6):sheets_Check fuel ((w:Int),(h:Int))=some 0:=by
 unfold sheets_Check
 have h5:w*h≤6*6:=Nat.mul_le_mul hw.2 hh.2
 have e:((w:Int)*h)=((w*h:Nat):Int):=by rw[Int.natCast_mul]
 have n1:¬((w:Int)<1):=by omega
 have n2:¬((h:Int)<1):=by omega
 have n3:¬((256:Int)<w):=by omega
 have n4:¬((256:Int)<h):=by omega
 have n5:¬((256:Int)< (w:Int)*h):=by omega
 simp only[n1,n2,n3,n4,decide_false,cond_false]
 rw[i64b_t (by omega) (by omega)]
 simp only[chk,cond_true,n5,decide_false,cond_false]
end
end X
end Go.Vm
namespace Go.Vm
namespace X
open W
theorem lives07:law07_lives fuel ()=some true:=by kernel_rfl
end X
end Go.Vm
namespace Go.Vm
namespace X
open W
section
variable {w h:Nat} {T:List LiT}
end
theorem lives_bind:Ret ((law07_lives fuel ()).bind fun r=>some r) fun x=>x=true:=by rw[lives07];exact Ret_some rfl
end X
end Go.Vm
namespace Go.Vm
namespace X
open W
def isU (u:UnT) (c:CreT):Bool:=decide (c.1=u.1)&&decide (c.2.1=u.2)
theorem isU_iff {u:UnT} {c:CreT}:isU u c=true↔(c.1,c.2.1)=u:=by
 simp[isU,Prod.ext_iff]
def kindIn (out:List CreT) (u:UnT):Int:=match out.find? (isU u) with
 | some c=>c.2.2
 | none=>0
def unitC (c:CreT):UnT:=(c.1,c.2.1)
structure OutOK (T:List LiT) (out:List CreT):Prop where
 nd:(out.map unitC).Nodup
 sub:∀c∈out,unitC c∈T.map (·.1)
 k1:∀c∈out,1≤c.2.2∧c.2.2≤3
theorem kindIn_mem {out:List CreT} (hn:(out.map unitC).Nodup) {c:CreT} (hc:c∈out):kindIn out (unitC c)=c.2.2:=by
 unfold kindIn
 cases h:out.find? (isU (unitC c)) with
 | none=>exact absurd (isU_iff.2 rfl) (List.find?_eq_none.1 h c hc)
 | some d=>
   have h1:=List.mem_of_find?_eq_some h
   have h2:=isU_iff.1 (List.find?_some h)
   obtain⟨i,hi,rfl⟩:=List.getElem_of_mem hc
   obtain⟨j,hj,rfl⟩:=List.getElem_of_mem h1
   have:=nodup_inj hn (i:=i) (j:=j) (by simpa using hi) (by simpa using hj) (by simpa[unitC] using h2.symm)
   subst this
   rfl
theorem kindIn_0 {T:List LiT} {out:List CreT} (ho:OutOK T out) {u:UnT}:kindIn out u=0↔u∉out.map unitC:=by
 unfold kindIn
 cases h:out.find? (isU u) with
 | none=>
   refine⟨fun _ hm=>?_,fun _=>rfl⟩
   obtain⟨c,hc,e⟩:=List.mem_map.1 hm
   exact absurd (isU_iff.2 e) (List.find?_eq_none.1 h c hc)
 | some c=>
   have h1:=List.mem_of_find?_eq_some h
   have h2:=isU_iff.1 (List.find?_some h)
   have:=ho.k1 c h1
   refine⟨fun e=>by simp only at e;omega,fun hn=>absurd (List.mem_map.2 ⟨c,h1,h2⟩) hn⟩
theorem OutOK.add {T:List LiT} {out:List CreT} (ho:OutOK T out) {v:UnT} {k:Int} (hv:kindIn out v=0) (hT:v∈T.map (·.1)) (hk:1≤k∧k≤3):OutOK T (out++[(v.1,(v.2,k))]):=by
 have hnot:=(kindIn_0 ho).1 hv
 refine⟨?_,fun c hc=>?_,fun c hc=>?_⟩
 ·rw[List.map_append,List.nodup_append]
  refine⟨ho.nd,by simp,fun a ha b hb e=>?_⟩
  have:b=v:=by simpa[unitC] using hb
  subst this
  subst e
  exact hnot ha
 ·rcases List.mem_append.1 hc with hc | hc
  ·exact ho.sub c hc
  ·rw[List.mem_singleton.1 hc];exact hT
 ·rcases List.mem_append.1 hc with hc | hc
  ·exact ho.k1 c hc
  ·rw[List.mem_singleton.1 hc];exact hk
theorem OutOK.len {w h:Nat} {T:List LiT} (t:Tab w h T) (hw:w≤6) (hh:h≤6) {out:List CreT} (ho:OutOK T out):out.length≤1000:=by
 have:=ho.nd.length_le_of_subset (l₂:=T.map (·.1)) (fun u hu=>by
  obtain⟨c,hc,rfl⟩:=List.mem_map.1 hu
  exact ho.sub c hc)
 have:=t.len hw hh
 simp only[List.length_map] at *
 omega
def addU (k:Int):List CreT→List UnT→Option (List CreT)
 | out,[]=>some out
 | out,v::us=>if kindIn out v=0 then addU k (out++[(v.1,(v.2,k))]) us else none
noncomputable def patL (T:List LiT):Int→List CreT→List SgT→(List CreT) ⊕ (Int×Int)
 | _,out,[]=>.inl out
 | i,out,x::l=>if(unitsR T x).2=0 then(match addU x.1 out (unitsR T x).1 with
   | none=>.inr (i,8)
   | some out'=>patL T (i+1) out' l) else .inr (i,(unitsR T x).2)
theorem wk_mem {T:List LiT} {l:Int×Int} {tq:Int}:∀(n:Nat) (p:Int) (u:List UnT),wk T l tq n p=some u→∀v∈u,v∈T.map (·.1)
 | 0,_,_,h=>by cases h
 | n+1,p,u,h=>by
   simp only[wk] at h
   split at h
   ·cases h;intro v hv;cases hv
   ·cases hl:lkT T l p with
    | none=>rw[hl] at h;cases h
    | some x=>
      rw[hl] at h
      simp only at h
      split at h
      ·cases h
      ·obtain⟨v,hv,rfl⟩:=Option.map_eq_some_iff.1 h
       intro a ha
       rcases List.mem_cons.1 ha with rfl | ha
       ·exact List.mem_map.2 ⟨x,(lkT_some hl).1,rfl⟩
       ·exact wk_mem n _ v hv a ha
theorem units_mem {T:List LiT} {x:SgT}:∀v∈(unitsR T x).1,v∈T.map (·.1):=by
 unfold unitsR
 by_cases ho:OrdP x
 ·rw[if_pos ho]
  cases hu:wkS T x.2.1 x.2.2.2 x.2.2.1 with
  | none=>intro v hv;cases hv
  | some u=>exact wk_mem _ _ _ hu
 ·rw[if_neg ho];intro v hv;cases hv
theorem units_kind {T:List LiT} {x:SgT} (h:(unitsR T x).2=0):1≤x.1∧x.1≤3:=by
 unfold unitsR at h
 by_cases ho:OrdP x
 ·exact⟨ho.k1,ho.k3⟩
 ·rw[if_neg ho] at h;cases h
theorem addU_ok {T:List LiT} {k:Int} (hk:1≤k∧k≤3):∀(us:List UnT) (out out':List CreT),OutOK T out→(∀v∈us,v∈T.map (·.1))→addU k out us=some out'→OutOK T out'
 | [],out,out',ho,_,e=>by cases e;exact ho
 | v::us,out,out',ho,hu,e=>by
   simp only[addU] at e
   split at e
   ·rename_i h0
    exact addU_ok hk us _ _ (ho.add h0 (hu v (List.mem_cons_self ..)) hk) (fun a ha=>hu a (List.mem_cons_of_mem _ ha)) e
   ·cases e
theorem patL_ok {T:List LiT}:∀(l:List SgT) (i:Int) (out out':List CreT),OutOK T out→patL T i out l=.inl out'→OutOK T out'
 | [],i,out,out',ho,e=>by cases e;exact ho
 | x::l,i,out,out',ho,e=>by
   simp only[patL] at e
   split at e
   ·rename_i h0
    cases ha:addU x.1 out (unitsR T x).1 with
    | none=>rw[ha] at e;cases e
    | some o2=>
      rw[ha] at e
      exact patL_ok l _ _ _ (addU_ok (units_kind h0) _ _ _ ho units_mem ha) e
   ·cases e
theorem out_nil {T:List LiT}:OutOK T []:=⟨List.nodup_nil,(fun c hc=>by cases hc),(fun c hc=>by cases hc)⟩
def filt (T:List LiT) (out:List CreT):List CreT:=T.filterMap fun x=>if kindIn out x.1=0 then none else some (x.1.1,(x.1.2,kindIn out x.1))
theorem filt_mem {T:List LiT} {out:List CreT} (ho:OutOK T out) (c:CreT):c∈filt T out↔c∈out:=by
 unfold filt
 rw[List.mem_filterMap]
 constructor
 ·rintro ⟨x,hx,e⟩
  split at e
  ·cases e
  ·rename_i h0
   have:∃d∈out,unitC d=x.1:=by
    have:x.1∈out.map unitC:=by
     apply Classical.byContradiction
     intro hn
     exact h0 ((kindIn_0 ho).2 hn)
    exact List.mem_map.1 this
   obtain⟨d,hd,ed⟩:=this
   have hk:=kindIn_mem ho.nd hd
   rw[ed] at hk
   rw[hk] at e
   cases e
   rw[←ed]
   exact hd
 ·intro hc
  obtain⟨x,hx,ex⟩:=List.mem_map.1 (ho.sub c hc)
  refine⟨x,hx,?_⟩
  have hk:=kindIn_mem ho.nd hc
  have:=ho.k1 c hc
  rw[ex,hk,if_neg (by omega)]
  rfl
theorem w64 {n:Int} (h:0≤n) (h2:n≤1000):RowKit.wrap64 n=n:=by unfold RowKit.wrap64;omega
theorem filt_sorted {w h:Nat} {T:List LiT} (t:Tab w h T) (out:List CreT):(filt T out).Pairwise fun a b=>cfC a b<0:=by
 have hp:T.Pairwise fun x y=>x∈T∧y∈T∧(x.1.1<y.1.1∨x.1.1=y.1.1∧x.1.2<y.1.2):=by
  have:=List.pairwise_map.1 t.asc
  rw[List.pairwise_iff_getElem] at this ⊢
  intro i j hi hj hij
  exact⟨List.getElem_mem _,List.getElem_mem _,this i j hi hj hij⟩
 refine List.Pairwise.filterMap _ (fun x y hxy a ha b hb=>?_) hp
 obtain⟨hx,hy,hlt⟩:=hxy
 have lx:=t.li hx
 have ly:=t.li hy
 split at ha<;>simp only[Option.mem_def,reduceCtorEq,Option.some.injEq] at ha
 split at hb<;>simp only[Option.mem_def,reduceCtorEq,Option.some.injEq] at hb
 subst ha hb
 rw[cfC_lt]
 simp only
 rw[w64 lx.e0 (by have:=lx.e2;omega),w64 ly.e0 (by have:=ly.e2;omega)]
 exact hlt
theorem filt_perm {w h:Nat} {T:List LiT} (t:Tab w h T) {out:List CreT} (ho:OutOK T out):out.Perm (filt T out):=by
 have n1:out.Nodup:=List.Pairwise.of_map _ (fun a b h e=>h (by rw[e])) ho.nd
 have n2:(filt T out).Nodup:=(filt_sorted t out).imp fun {a b} h e=>by subst e;rw[cfC_lt] at h;omega
 exact(List.perm_ext_iff_of_nodup n1 n2).2 fun c=>(filt_mem ho c).symm
end X
end Go.Vm
namespace Go.Vm
namespace X
open W
section
variable {w h:Nat} {T:List LiT}
theorem unitsR_yes {x:SgT} (h:OrdP x):unitsR T x=(match wkS T x.2.1 x.2.2.2 x.2.2.1 with
 | none=>([],7)
 | some u=>(u,0)):=by
 unfold unitsR
 rw[if_pos h]
 try (cases wkS T x.2.1 x.2.2.2 x.2.2.1<;>rfl)
abbrev PatT:=Int×(Int×List CreT)
noncomputable def patR (T:List LiT) (w h:Nat) (l:List SgT):PatT×(Int×Int):=match patL T 0 [] l with
 | .inl out=>(((w:Int),((h:Int),filt T out)),(0,0))
 | .inr e=>((0,(0,[])),e)
theorem drop_cons {α:Type} {l:List α} {i:Nat} (hi:i<l.length):l.drop i=l[i]::l.drop (i+1):=List.drop_eq_getElem_cons hi
theorem getD_at {α:Type} {l:List α} {i:Nat} {d:α} (hi:i<l.length):l.getD ((i:Int).toNat) d=l[i]:=by
 rw[Int.toNat_natCast,List.getD_eq_getElem?_getD,List.getElem?_eq_getElem hi];rfl
end
end X
end Go.Vm
namespace Go.Vm
namespace X
open W
def withR:List UnT→List Int→List CreT
 | u::U,k::A=>if k=0 then withR U A else(u.1,(u.2,k))::withR U A
 | _,_=>[]
section
variable {w h:Nat} {T:List LiT}
theorem With_ok (t:Tab w h T) (hw:1≤w∧w≤6) (hh:1≤h∧h≤6) {A:List Int} (hA:A.length≤1000000):ref06_With fuel (((w:Int),(h:Int)),A)=some ((w:Int),((h:Int),withR (T.map (·.1)) A)):=by
 have hlen:=t.len hw.2 hh.2
 unfold ref06_With
 simp only
 rw[t.un,Option.bind_some]
 have hUl:(T.map (·.1)).length≤1000:=by simpa using hlen
 generalize T.map (·.1)=U at hUl
 refine(loopF_eq (fun s:Int×(Int×(Int×List CreT))=>∃i:Nat,s.1=(i:Int)∧i≤U.length∧s.2.2.2.length≤i∧s.2.1=(w:Int)∧s.2.2.1=(h:Int)) (fun s=>U.length-s.1.toNat) (fun s=>some ((w:Int),((h:Int),s.2.2.2++withR (U.drop s.1.toNat) (A.drop s.1.toNat)))) ?_ fuel _ ⟨0,rfl,Nat.zero_le _,Nat.le_refl _,rfl,rfl⟩ (by simp only[fuel];omega)).trans (by simp)
 rintro ⟨i',w',h',acc⟩ rec ⟨i,hi',hi,hacc,hw',hh'⟩ hrec
 simp only at hi' hacc hw' hh'
 subst hi' hw' hh'
 simp only
 by_cases hlt:(i:Int)< ((U.length:Nat):Int)
 rotate_left
 ·have:i=U.length:=by omega
  subst this
  simp only[hlt,decide_false,cond_false]
  rw[Int.toNat_natCast,List.drop_length]
  simp[withR]
 have hi2:i<U.length:=by omega
 simp only[hlt,decide_true,cond_true]
 by_cases hla:(i:Int)< ((A.length:Nat):Int)
 rotate_left
 ·simp only[hla,decide_false,cond_false]
  rw[Int.toNat_natCast,show A.drop i=[] from List.drop_eq_nil_of_le (by omega)]
  cases U.drop i<;>simp[withR]
 have hi3:i<A.length:=by omega
 simp only[hla,decide_true,cond_true]
 rw[inb_t (by omega) hla,inb_t (by omega) hlt]
 simp only[chk,cond_true]
 rw[getD_at hi3,getD_at hi2,Int.toNat_natCast,drop_cons hi2,drop_cons hi3]
 simp only[withR]
 by_cases h0:A[i]=0
 ·simp only[h0,ne_eq,not_true_eq_false,decide_false,cond_false,if_true]
  rw[i64b_t (by omega) (by omega)]
  simp only[cond_true]
  rw[hrec _ ⟨i+1,by simp,hi2,by simp only;omega,rfl,rfl⟩ (by simp only;omega)]
  simp only
  rw[show((i:Int)+1).toNat=i+1 by omega]
 ·simp only[h0,ne_eq,not_false_eq_true,decide_true,cond_true,if_false]
  rw[lenOk_t (by omega),i64b_t (by omega) (by omega)]
  simp only[cond_true]
  rw[hrec _ ⟨i+1,by simp,hi2,by simp only[List.length_append,List.length_singleton];omega,rfl,rfl⟩ (by simp only;omega)]
  simp only
  rw[show((i:Int)+1).toNat=i+1 by omega,List.append_assoc]
  rfl
end
end X
end Go.Vm
namespace Go.Vm
namespace X
open W Go.RowKit
section
variable {w h:Nat} {T:List LiT}
theorem lkT_filter (T:List LiT) (l:Int×Int) (p:Int):lkT (T.filter fun x=>decide (x.2.1.1=l.1)&&decide (x.2.1.2=l.2)) l p=lkT T l p:=by
 unfold lkT
 rw[List.find?_filter]
 congr 1
 funext x
 unfold isAt
 cases decide (x.2.1.1=l.1)<;>cases decide (x.2.1.2=l.2)<;>simp
def atL (T:List LiT) (l:Int×Int):Nat→Option LiT:=fun p=>lkT T l (p:Int)
theorem lineL_eq (T:List LiT) (n:Nat) (l:Int×Int):lineL T n l=(List.range n).filterMap (atL T l):=by
 unfold lineL
 congr 1
 funext p
 exact lkT_filter T l p
def lnL (T:List LiT) (w h:Nat) (k c:Nat):List LiT:=(List.range (2* (w+h)+1)).filterMap (atL T ((k:Int)+1,(c:Int)-(w:Int)))
def kdL (T:List LiT) (w h:Nat) (k:Nat):List LiT:=(List.range (w+ (w+h)+1)).flatMap (lnL T w h k)
theorem walkS_eq (T:List LiT) (w h:Nat):walkS T w h=(List.range 4).flatMap (kdL T w h):=by
 unfold walkS kdL lnL
 simp only[lineL_eq]
theorem atL_mem {l:Int×Int} {p:Nat} {x:LiT} (e:atL T l p=some x):x∈T∧x.2.1=l∧x.2.2.1=p:=lkT_some e
theorem lnL_mem {k c:Nat} {x:LiT} (e:x∈lnL T w h k c):x∈T∧x.2.1=((k:Int)+1,(c:Int)-(w:Int)):=by
 obtain⟨p,_,hp⟩:=List.mem_filterMap.1 e
 exact⟨(atL_mem hp).1,(atL_mem hp).2.1⟩
theorem kdL_mem {k:Nat} {x:LiT} (e:x∈kdL T w h k):x∈T∧x.2.1.1=(k:Int)+1:=by
 obtain⟨c,_,hc⟩:=List.mem_flatMap.1 e
 have:=lnL_mem hc
 exact⟨this.1,by rw[this.2]⟩
theorem walk_mem (t:Tab w h T) {x:LiT}:x∈walkS T w h↔x∈T:=by
 rw[walkS_eq]
 constructor
 ·intro e
  obtain⟨k,_,hk⟩:=List.mem_flatMap.1 e
  exact(kdL_mem hk).1
 ·intro hx
  have li:=t.li hx
  have a1:=li.k1;have a2:=li.k4;have a3:=li.c0;have a4:=li.c1;have a5:=li.f0;have a6:=li.ft;have a7:=li.t1
  refine List.mem_flatMap.2 ⟨(x.2.1.1-1).toNat,List.mem_range.2 (by omega),List.mem_flatMap.2 ⟨(x.2.1.2+w).toNat,List.mem_range.2 (by omega),List.mem_filterMap.2 ⟨x.2.2.1.toNat,List.mem_range.2 (by omega),?_⟩⟩⟩
  unfold atL
  have e1:(((x.2.1.1-1).toNat:Nat):Int)+1=x.2.1.1:=by omega
  have e2:(((x.2.1.2+w).toNat:Nat):Int)-(w:Int)=x.2.1.2:=by omega
  have e3:((x.2.2.1.toNat:Nat):Int)=x.2.2.1:=by omega
  rw[e1,e2,e3]
  exact lkT_mem t.key hx
def NxP (p q:(Int×Int)×(Int×Int)):Prop:=p.1.1<q.1.1∨p.1.1=q.1.1∧(p.1.2<q.1.2∨p.1.2=q.1.2∧p.2.2≤q.2.1)
theorem adj_pw' {α:Type} {r:α→α→Bool} {P:α→Prop} (tr:∀x y z,P y→r x y=true→r y z=true→r x z=true):∀ {l:List α},(∀x∈l,P x)→adj r l=true→l.Pairwise fun x y=>r x y=true
 | [],_,_=>List.Pairwise.nil
 | x::l,hP,h=>by
   simp only[adj,Bool.and_eq_true] at h
   have ih:=adj_pw' tr (fun y hy=>hP y (List.mem_cons_of_mem _ hy)) h.2
   refine List.pairwise_cons.2 ⟨fun y hy=>?_,ih⟩
   cases l with
   | nil=>cases hy
   | cons z l=>
     rcases List.mem_cons.1 hy with e | hy
     ·rw[e];exact h.1
     ·exact tr _ _ _ (hP z (List.mem_cons_of_mem _ List.mem_cons_self)) h.1 ((List.pairwise_cons.1 ih).1 y hy)
theorem walk_pw (t:Tab w h T):(walkS T w h).Pairwise fun x y=>NxP x.2 y.2:=by
 refine(adj_pw' (P:=fun x=>x.2.2.1<x.2.2.2) (fun x y z hy h1 h2=>?_) (fun x hx=>(t.li ((walk_mem t).1 hx)).ft) t.wk).imp fun h=>nxt_iff.1 h
 rw[nxt_iff] at *
 unfold Nx at *
 omega
theorem walk_nodup (t:Tab w h T):(walkS T w h).Nodup:=by
 have hp:=walk_pw t
 have:(walkS T w h).Pairwise fun x y=>x∈walkS T w h∧NxP x.2 y.2:=by
  rw[List.pairwise_iff_getElem] at hp ⊢
  exact fun i j hi hj hij=>⟨List.getElem_mem _,hp i j hi hj hij⟩
 refine this.imp fun {a b} ⟨hm,h⟩ e=>?_
 subst e
 have:=(t.li ((walk_mem t).1 hm)).ft
 unfold NxP at h
 omega
theorem walk_perm (t:Tab w h T):(walkS T w h).Perm T:=by
 have n2:T.Nodup:=List.Pairwise.of_map _ (fun a b h e=>h (by rw[e])) t.ndU
 exact(List.perm_ext_iff_of_nodup (walk_nodup t) n2).2 fun c=>walk_mem t
end
def goes (c e:SgT):Prop:=c.1=e.1∧c.2.1=e.2.1∧c.2.2.2=e.2.2.1
instance (c e:SgT):Decidable (goes c e):=by unfold goes;exact inferInstance
def stepG (s:List SgT×Option SgT) (e:SgT):List SgT×Option SgT:=
 match s.2 with
 | none=>(s.1,if e.1≠0 then some e else none)
 | some c=>if e.1≠0∧goes c e then(s.1,some (c.1,(c.2.1,(c.2.2.1,e.2.2.2)))) else(s.1++[c],if e.1≠0 then some e else none)
def runG:List SgT×Option SgT→List SgT→List SgT
 | s,[]=>s.1++s.2.toList
 | s,e::l=>runG (stepG s e) l
theorem run_flush {out:List SgT} {c:SgT}:∀ {l:List SgT},(∀e,l.head?=some e→¬goes c e)→runG (out,some c) l=runG (out++[c],none) l
 | [],_=>by simp[runG]
 | e::l,h=>by
   have:=h e rfl
   simp only[runG,stepG,this,and_false,if_false]
theorem run_filter:∀(l:List SgT) (out:List SgT) (cur:Option SgT),(∀e∈l,e.2.2.1<e.2.2.2)→l.Pairwise (fun x y=>NxP x.2 y.2)→(∀c,cur=some c→∀e∈l,NxP c.2 e.2)→
  runG (out,cur) l=runG (out,cur) (l.filter fun e=>decide (e.1≠0))
 | [],_,_,_,_,_=>rfl
 | e::l,out,cur,hf,hp,hc=>by
   obtain⟨hp1,hp2⟩:=List.pairwise_cons.1 hp
   have hf2:∀e∈l,e.2.2.1<e.2.2.2:=fun x hx=>hf x (List.mem_cons_of_mem _ hx)
   have fe:=hf e List.mem_cons_self
   by_cases h0:e.1=0
   ·rw[List.filter_cons_of_neg (by simp[h0])]
    cases cur with
    | none=>
      have es:stepG (out,none) e=(out,none):=by simp[stepG,h0]
      rw[runG,es]
      exact run_filter l out none hf2 hp2 (fun c h=>by cases h)
    | some c=>
      have es:stepG (out,some c) e=(out++[c],none):=by simp[stepG,h0]
      rw[runG,es,run_filter l _ none hf2 hp2 (fun c h=>by cases h)]
      refine(run_flush fun v hv=>?_).symm
      have hm:=List.mem_of_mem_head? (by rw[hv];rfl:v∈(l.filter fun e=>decide (e.1≠0)).head?)
      have hm:=(List.mem_filter.1 hm).1
      rintro ⟨g1,g2,g3⟩
      have n1:=hc c rfl e List.mem_cons_self
      have n2:=hp1 v hm
      have e1:c.2.1.1=v.2.1.1:=by rw[g2]
      have e2:c.2.1.2=v.2.1.2:=by rw[g2]
      unfold NxP at n1 n2
      omega
   ·rw[List.filter_cons_of_pos (by simp[h0])]
    simp only[runG]
    rcases hs:stepG (out,cur) e with⟨o2,c2⟩
    refine run_filter l o2 c2 hf2 hp2 fun d hd v hv=>?_
    have n2:=hp1 v hv
    have:d.2.1=e.2.1∧d.2.2.2=e.2.2.2:=by
     unfold stepG at hs
     cases cur with
     | none=>
       simp only[ne_eq,h0,not_false_eq_true,if_true,Prod.mk.injEq] at hs
       rw[hd] at hs
       cases hs.2
       exact⟨rfl,rfl⟩
     | some c=>
       simp only[ne_eq,h0,not_false_eq_true,if_true,true_and] at hs
       split at hs
       ·rename_i g
        simp only[Prod.mk.injEq] at hs
        rw[hd] at hs
        cases hs.2
        exact⟨g.2.1,rfl⟩
       ·simp only[Prod.mk.injEq] at hs
        rw[hd] at hs
        cases hs.2
        exact⟨rfl,rfl⟩
    have e1:d.2.1.1=e.2.1.1:=by rw[this.1]
    have e2:d.2.1.2=e.2.1.2:=by rw[this.1]
    unfold NxP at n2 ⊢
    omega
def kW (K:UnT→Int) (l:List LiT):List SgT:=l.map fun x=>(K x.1,x.2)
def segR (T:List LiT) (w h:Nat) (K:UnT→Int):List SgT:=runG ([],none) (kW K (walkS T w h))
end X
end Go.Vm
namespace Go.Vm
namespace X
open W Go.RowKit
def enc:Option SgT→Int×(Int×(Int×(Int×Int)))
 | none=>(0,(0,(0,(0,0))))
 | some c=>(c.1,(c.2.1.1,(c.2.1.2,(c.2.2.1,c.2.2.2))))
theorem step_ext {out:List SgT} {c e:SgT} (h0:e.1≠0) (hg:goes c e):stepG (out,some c) e=(out,some (c.1,(c.2.1,(c.2.2.1,e.2.2.2)))):=by simp only[stepG];rw[if_pos ⟨h0,hg⟩]
theorem step_new {out:List SgT} {c e:SgT} (h0:e.1≠0) (hg:¬goes c e):stepG (out,some c) e=(out++[c],some e):=by simp only[stepG];rw[if_neg fun h=>hg h.2,if_pos h0]
theorem step_no {out:List SgT} {c e:SgT} (h0:e.1=0):stepG (out,some c) e=(out++[c],none):=by simp only[stepG];rw[if_neg fun h=>h.1 h0,if_neg fun h=>h h0]
theorem step_n1 {out:List SgT} {e:SgT} (h0:e.1≠0):stepG (out,none) e=(out,some e):=by simp only[stepG];rw[if_pos h0]
theorem step_n0 {out:List SgT} {e:SgT} (h0:e.1=0):stepG (out,none) e=(out,none):=by simp only[stepG];rw[if_neg fun h=>h h0]
section
variable {w h:Nat} {T:List LiT}
end
end X
end Go.Vm
namespace Go.Vm
namespace X
open W Go.RowKit
section
variable {w h:Nat} {T:List LiT}
theorem lies_ok (t:Tab w h T) {x:LiT} (hx:x∈T):segments_lies fuel (((w:Int),(h:Int)),x.1)=some ((x.2.1,x.2.2.1),x.2.2.2):=by
 have:=List.all_eq_true.1 t.lie x hx
 unfold lieOK at this
 split at this
 ·rename_i r hr
  rw[show((x.1.1,x.1.2):UnT)=x.1 from rfl] at hr
  rw[hr]
  simp only[Bool.and_eq_true,decide_eq_true_eq] at this
  obtain⟨⟨⟨a1,a2⟩,a3⟩,a4⟩:=this
  rw[show r=((r.1.1,r.1.2),r.2) from rfl,show r.1.1=x.2.1 from Prod.ext a1 a2,a3,a4]
 ·cases this
def segC (T:List LiT) (c:CreT):SgT:=(c.2.2,((T.find? fun x=>decide (x.1=unitC c)).map (·.2)).getD ((0,0),(0,0)))
theorem segC_at (t:Tab w h T) {c:CreT} {x:LiT} (hx:x∈T) (e:x.1=unitC c):segC T c=(c.2.2,x.2):=by
 unfold segC
 have:T.find? (fun x=>decide (x.1=unitC c))=some x:=by
  cases hf:T.find? (fun x=>decide (x.1=unitC c)) with
  | none=>exact absurd (by simpa using e) (List.find?_eq_none.1 hf x hx)
  | some y=>
    have h1:=List.mem_of_find?_eq_some hf
    have h2:=List.find?_some hf
    rw[t.unitInj h1 hx (by rw[e];simpa using h2)]
 rw[this]
 rfl
def segF (T:List LiT) (w h:Nat) (K:UnT→Int):List SgT:=(kW K (walkS T w h)).filter fun e=>decide (e.1≠0)
theorem kW_pw (t:Tab w h T) (K:UnT→Int):(kW K (walkS T w h)).Pairwise fun x y=>NxP x.2 y.2:=List.pairwise_map.2 (walk_pw t)
theorem kW_mem (t:Tab w h T) {K:UnT→Int} {e:SgT} (he:e∈kW K (walkS T w h)):∃x∈T,e=(K x.1,x.2):=by
 obtain⟨x,hx,rfl⟩:=List.mem_map.1 he
 exact⟨x,(walk_mem t).1 hx,rfl⟩
theorem segR_F (t:Tab w h T) (K:UnT→Int):segR T w h K=runG ([],none) (segF T w h K):=
 run_filter _ _ _ (fun e he=>by obtain⟨x,hx,rfl⟩:=kW_mem t he;exact(t.li hx).ft) (kW_pw t K) (fun c h=>by cases h)
theorem segF_sorted (t:Tab w h T) (K:UnT→Int):(segF T w h K).Pairwise fun a b=>cfG a b<0:=by
 have hp:(segF T w h K).Pairwise fun x y=>NxP x.2 y.2:=(kW_pw t K).filter _
 have:(segF T w h K).Pairwise fun x y=>(x∈segF T w h K∧y∈segF T w h K)∧NxP x.2 y.2:=by
  rw[List.pairwise_iff_getElem] at hp ⊢
  exact fun i j hi hj hij=>⟨⟨List.getElem_mem _,List.getElem_mem _⟩,hp i j hi hj hij⟩
 refine this.imp fun {a b} ⟨⟨ha,hb⟩,hn⟩=>?_
 obtain⟨x,hx,rfl⟩:=kW_mem t (List.mem_filter.1 ha).1
 obtain⟨y,hy,rfl⟩:=kW_mem t (List.mem_filter.1 hb).1
 have lx:=t.li hx
 have ly:=t.li hy
 have b1:=lx.ft
 rw[cfG_lt]
 simp only
 rw[w64 (by have:=lx.k1;omega) (by have:=lx.k4;omega),w64 (by have:=ly.k1;omega) (by have:=ly.k4;omega)]
 unfold NxP at hn
 simp only at hn
 omega
theorem filterMap_cong {α β:Type} {f g:α→Option β}:∀ {l:List α},(∀x∈l,f x=g x)→l.filterMap f=l.filterMap g
 | [],_=>rfl
 | x::l,h=>by
   rw[List.filterMap_cons,List.filterMap_cons,h x List.mem_cons_self,filterMap_cong fun y hy=>h y (List.mem_cons_of_mem _ hy)]
theorem segF_perm (t:Tab w h T) {cr:List CreT} (ho:OutOK T cr):(cr.map (segC T)).Perm (segF T w h (kindIn cr)):=by
 have h1:((filt T cr).map (segC T)).Perm (segF T w h (kindIn cr)):=by
  have e:(filt T cr).map (segC T)=(kW (kindIn cr) T).filter fun e=>decide (e.1≠0):=by
   unfold filt kW
   rw[List.map_filterMap,List.filter_map,←List.filterMap_eq_map,←List.filterMap_eq_filter,List.filterMap_filterMap]
   refine filterMap_cong fun x hx=>?_
   by_cases h0:kindIn cr x.1=0
   ·simp[h0,Option.guard]
   ·simp only[h0,if_false,Option.map_some,Option.guard,Function.comp_apply,ne_eq,not_false_eq_true,decide_true,if_true,Option.bind_some]
    rw[segC_at t hx rfl]
    try rfl
  rw[e]
  exact((walk_perm t).symm.map _).filter _
 exact((filt_perm t ho).map _).trans h1
theorem sortG_ok (t:Tab w h T) {cr:List CreT} (ho:OutOK T cr):sortC cfG (cr.map (segC T))=segF T w h (kindIn cr):=by
 have hs:=segF_sorted t (kindIn cr)
 have hp:=(sortC_perm cfG (cr.map (segC T))).trans (segF_perm t ho)
 refine sortC_uniq cfG (fun x hx y hy h1 h2=>?_) (sortC_sorted cfG swoG _) (hs.imp fun {a b} h c=>by rw[cfG_lt] at *;omega) hp
 have hx:=hp.subset hx
 have hy:=hp.subset hy
 obtain⟨i,hi,rfl⟩:=List.getElem_of_mem hx
 obtain⟨j,hj,rfl⟩:=List.getElem_of_mem hy
 rw[List.pairwise_iff_getElem] at hs
 rcases Nat.lt_trichotomy i j with g | g | g
 ·exact absurd (hs i j hi hj g) h1
 ·subst g;rfl
 ·exact absurd (hs j i hj hi g) h2
theorem okG_ok (t:Tab w h T) {cr:List CreT} (ho:OutOK T cr):okG (cr.map (segC T))=true:=by
 unfold okG
 rw[sortG_ok t ho]
 exact pw_dist (segF_sorted t _)
theorem segF_ne {K:UnT→Int} {e:SgT} (he:e∈segF T w h K):e.1≠0:=by
 have:=(List.mem_filter.1 he).2
 simpa using this
theorem drop_take_all {α:Type} (l:List α) (n:Nat):(l.drop n).take (l.length-n)=l.drop n:=List.take_of_length_le (by simp)
theorem Of_ok (t:Tab w h T) (hw:1≤w∧w≤6) (hh:1≤h∧h≤6) {cr:List CreT} (hck:patterns_Check fuel ((w:Int),((h:Int),cr))=some 0) (ho:OutOK T cr):
  segments_Of fuel ((w:Int),((h:Int),cr))=some (segR T w h (kindIn cr),0):=by
 have hlen:=ho.len t hw.2 hh.2
 apply Ret.eq
 unfold segments_Of
 rw[show(((w:Int),((h:Int),cr)).1,(((w:Int),((h:Int),cr)).2.1,((w:Int),((h:Int),cr)).2.2))=((w:Int),((h:Int),cr)) from rfl,hck,Option.bind_some]
 refine Ret_dec (fun g=>absurd rfl g) fun _=>?_
 refine Ret_chk (by simp only[Bool.and_eq_true,decide_eq_true_eq];omega) ?_
 refine Ret_loop (fun s:List SgT×Int=>∃n:Nat,s.2=(n:Int)∧n≤cr.length∧s.1=(cr.take n).map (segC T)) (fun s=>cr.length-s.2.toNat) ?_ fuel ([],0) ⟨0,rfl,by omega,by simp⟩ (by simp only[fuel];omega)
 rintro ⟨all,n'⟩ rec ⟨n,hn,hnl,hall⟩ hrec
 simp only at hn hall
 subst hn hall
 refine Ret_dec (fun hlt=>?_) fun hge=>?_
 ·have hlt:(n:Int)< (cr.length:Int):=hlt
  have hi:n<cr.length:=by omega
  have hin:inb (n:Int) cr.length=true:=inb_t (by omega) hlt
  refine Ret_chk hin ?_
  simp only
  rw[getD_at hi]
  obtain⟨x,hx,ex⟩:=List.mem_map.1 (ho.sub cr[n] (List.getElem_mem hi))
  rw[show((cr[n].1,cr[n].2.1):UnT)=x.1 from ex.symm,lies_ok t hx,Option.bind_some]
  refine Ret_chk (lenOk_t (by simp only[List.length_map,List.length_take];omega)) (Ret_chk (i64b_t (by omega) (by omega)) (hrec _ ⟨n+1,by simp,hi,?_⟩ (by simp only;omega)))
  simp only
  rw[take_get _ _ hi,List.map_append,List.map_singleton,segC_at t hx ex]
 have hge:¬(n:Int)< (cr.length:Int):=hge
 have:n=cr.length:=by omega
 subst this
 have eS:slices_SortFunc_segments_Segment fuel (((cr.take cr.length).map (segC T),none),((),()))=some ((),((segF T w h (kindIn cr),none),((),()))):=by
  unfold slices_SortFunc_segments_Segment
  have e1:(Nat.ble (List.length (α:=SgT) ((cr.take cr.length).map (segC T))) 1000000&&okG ((cr.take cr.length).map (segC T)))=true:=by
   rw[List.take_length,okG_ok t ho,Bool.and_true,Nat.ble_eq,List.length_map]
   omega
  have e2:=e1
  simp only at e1 ⊢
  rw[e1,List.take_length,sortG_ok t ho]
  rfl
 rw[eS,Option.bind_some]
 have hX0:=segR_F t (kindIn cr)
 have hL0:(segF T w h (kindIn cr)).length≤1000:=by rw[←(segF_perm t ho).length_eq,List.length_map];exact hlen
 have hN0:∀e∈segF T w h (kindIn cr),e.1≠0:=fun e he=>segF_ne he
 simp only
 generalize segR T w h (kindIn cr)=X at hX0 ⊢
 generalize segF T w h (kindIn cr)=F at hX0 hL0 hN0 ⊢
 refine Ret_loop (fun s:List SgT×List SgT=>(∀e∈s.1,e.1≠0)∧runG (s.2,none) s.1=X∧s.2.length+s.1.length≤1000) (fun s=>s.1.length) ?_ fuel (F,[]) ⟨hN0,hX0.symm,by simpa using hL0⟩ (by simp only[fuel];omega)
 clear hX0 hL0 hN0 eS hrec rec
 rintro ⟨all,out⟩ rec5 ⟨hN,hX,hL⟩ hrec5
 simp only at hN hX hL
 cases all with
 | nil=>
   refine Ret_dec (fun g=>absurd g (by simp)) fun _=>?_
   simp only[runG,Option.toList_none,List.append_nil] at hX
   subst hX
   have hb:bnb 0 (out.length:Int) out.length=true:=by unfold bnb;simp
   refine Ret_chk (by simp only[Bool.and_eq_true,decide_eq_true_eq];exact⟨⟨hb,by omega⟩,by omega⟩) (Ret_chk ?_ (Ret_some ?_))
   ·simp[capIs]
   ·simp
 | cons x r=>
   have hb:∀n:Nat,n+1≤(x::r).length→bnb ((n:Int)+1) ((x::r).length:Int) (x::r).length=true:=fun n hn=>by
    unfold bnb
    simp only[Bool.and_eq_true,decide_eq_true_eq]
    omega
   refine Ret_dec (fun _=>?_) fun g=>absurd (by simp only[List.length_cons];omega) g
   refine Ret_chk (inb_t (by omega) (by simp only[List.length_cons];omega)) (Ret_chk (hb 0 (by simp)) ?_)
   generalize hA:x::r=A at hb hrec5 hN hX hL
   have hAl:1≤A.length:=by rw[←hA];simp
   refine Ret_loop (fun s:Int×(Int×(Int×(Int×(Int×(Int×Int)))))=>∃(n:Nat) (y:SgT),s=((n:Int)+1,((n:Int),enc (some y)))∧n+1≤A.length∧y.1≠0∧runG (out,some y) (A.drop (n+1))=X) (fun s=>A.length-s.1.toNat) ?_ fuel _ ⟨0,x,by rw[←hA];rfl,hAl,hN x (by rw[←hA];simp),?_⟩ (by simp only[fuel];omega)
   rotate_left
   ·rw[←hA] at hX ⊢
    rw[←hX]
    have:=hN x (by rw[←hA];simp)
    rw[runG,step_n1 this]
    rfl
   rintro s rec6 ⟨n,y,rfl,hn,hy,hXn⟩ hrec6
   have ex:runG (out++[y],none) (A.drop (n+1))=X→Ret (chk (lenOk (out.length+1)) (chk (bnb ((n:Int)+1) (A.length:Int) A.length) (rec5 (((A.drop ((n:Int)+1).toNat).take (A.length-((n:Int)+1).toNat)),(out++[y]))))) fun x=>x=(X,0):=fun hx=>by
    refine Ret_chk (lenOk_t (by omega)) (Ret_chk (hb n hn) (hrec5 _ ⟨?_,?_,?_⟩ ?_))
    ·intro e he
     simp only[drop_take_all] at he
     exact hN e (List.mem_of_mem_drop he)
    ·simp only[drop_take_all]
     rw[show((n:Int)+1).toNat=n+1 by omega]
     exact hx
    ·simp only[drop_take_all,List.length_append,List.length_singleton,List.length_drop]
     omega
    ·simp only[drop_take_all,List.length_drop]
     omega
   have hd1:(A.drop 1).take (A.length-1)=A.drop 1:=drop_take_all A 1
   have hdl:((A.drop 1).take (A.length-1)).length=A.length-1:=by rw[hd1,List.length_drop]
   refine Ret_dec (fun hlt=>?_) fun hge=>?_
   ·have hlt:(n:Int)< (((A.drop 1).take (A.length-1)).length:Int):=hlt
    have hn2:n+1<A.length:=by omega
    refine Ret_chk (inb_t (Int.natCast_nonneg n) hlt) ?_
    have hg:((A.drop 1).take (A.length-1)).getD ((n:Int).toNat) (0,((0,0),(0,0)))=A[n+1]:=by
     rw[getD_at (by omega)]
     simp only[hd1,List.getElem_drop]
     congr 1
     omega
    have hd:=drop_cons hn2
    have fl:¬goes y A[n+1]→runG (out++[y],none) (A.drop (n+1))=X:=fun hg=>by
     rw[←hXn]
     exact(run_flush fun e he=>by rw[hd] at he;cases he;exact hg).symm
    rw[hd] at hXn
    simp only
    rw[hg]
    generalize A[n+1]=z at hXn hg fl ⊢
    refine Ret_dec (fun g=>ex (fl fun h=>g h.1.symm)) fun g1=>?_
    refine Ret_bif (fun g=>ex (fl fun h=>?_)) fun g2=>?_
    ·have e1:z.2.1.1=y.2.1.1:=by rw[h.2.1]
     have e2:z.2.1.2=y.2.1.2:=by rw[h.2.1]
     simp[enc,e1,e2] at g
    refine Ret_dec (fun g=>ex (fl fun h=>g h.2.2.symm)) fun g3=>?_
    have g1:z.1=y.1:=Classical.not_not.1 g1
    have g3:z.2.2.1=y.2.2.2:=Classical.not_not.1 g3
    have g2:z.2.1.1=y.2.1.1∧z.2.1.2=y.2.1.2:=by
     by_cases u1:z.2.1.1=y.2.1.1<;>by_cases u2:z.2.1.2=y.2.1.2<;>simp[enc,u1,u2] at g2 ⊢
    have hgo:goes y z:=⟨g1.symm,Prod.ext g2.1.symm g2.2.symm,g3.symm⟩
    have hz:z.1≠0:=by rw[g1];exact hy
    rw[runG,step_ext hz hgo] at hXn
    exact Ret_chk (i64b_t (by omega) (by omega)) (Ret_chk (i64b_t (by omega) (by omega)) (hrec6 _ ⟨n+1,(y.1,(y.2.1,(y.2.2.1,z.2.2.2))),by simp[enc],hn2,hy,hXn⟩ (by simp only;omega)))
   ·have hge:¬(n:Int)< (((A.drop 1).take (A.length-1)).length:Int):=hge
    refine ex ?_
    rw[←hXn]
    have:A.drop (n+1)=[]:=List.drop_of_length_le (by omega)
    rw[this]
    simp[runG]
end
end X
end Go.Vm
namespace Go.Vm
namespace X
open W Go.RowKit Go.Proofs.Un
section
variable {w h:Nat} {T:List LiT}
theorem nb_eq:In.sheets_Neighbour=sheets_Neighbour:=rfl
theorem cnt_eq:In.sheets_Count=sheets_Count:=rfl
theorem listU:∀(l acc:List UnT),acc.length+l.length≤1000→
  listF (fun(x2:((List (Int×Int))×Unit))=>chk (bnb 0 ((x2.1.length:Nat):Int) x2.1.length&&decide (((x2.1.length:Nat):Int)≤((x2.1.length:Nat):Int))&&decide (((x2.1.length:Nat):Int)≤((x2.1.length:Nat):Int))) (chk ((Nat.beq 0 0)&&(capIs (some x2.1.length) (x2.1.take x2.1.length).length)) (some ((x2.1.take x2.1.length),(0:Int))))) (fun y2 rec2 x2=>chk (lenOk (x2.1.length+1)) (rec2 ((x2.1++[(y2.1,y2.2)]),()))) l (acc,())=some (acc++l,0)
 | [],acc,_=>by
   simp[listF,chk,bnb,capIs]
 | y::l,acc,h=>by
   simp only[List.length_cons] at h
   simp only[listF]
   rw[lenOk_t (by omega),listU l (acc++[(y.1,y.2)]) (by simp only[List.length_append,List.length_singleton];omega)]
   simp[chk]
theorem Count_ok (hw:1≤w∧w≤6) (hh:1≤h∧h≤6):sheets_Count fuel ((w:Int),(h:Int))=some ((4*w*h:Nat):Int):=by
 have hwh:w*h≤6*6:=Nat.mul_le_mul hw.2 hh.2
 have e:4* (w:Int)* (h:Int)=((4*w*h:Nat):Int):=by simp
 have e2:4*w*h=4* (w*h):=Nat.mul_assoc _ _ _
 unfold sheets_Count
 simp only
 rw[sheet_Check_ok hw hh,Option.bind_some]
 simp only[ne_eq,not_true_eq_false,decide_false,cond_false]
 rw[e,i64b_t (by omega) (by omega),i64b_t (by omega) (by omega)]
 rfl
theorem unit_mem (t:Tab w h T) (hw:1≤w∧w≤6) (hh:1≤h∧h≤6) {u:UnT}:u∈T.map (·.1)↔∃i,i<12*w*h∧unP w h i=true∧u=(((i / 3:Nat):Int),((i%3:Nat):Int)):=by
 have hwh:w*h≤6*6:=Nat.mul_le_mul hw.2 hh.2
 have e2:12*w*h=12* (w*h):=Nat.mul_assoc _ _ _
 have e3:4*w*h=4* (w*h):=Nat.mul_assoc _ _ _
 have hu:=t.us
 unfold sheets_Units at hu
 simp only at hu
 rw[sheet_Check_ok hw hh,Option.bind_some] at hu
 simp only[ne_eq,not_true_eq_false,decide_false,cond_false] at hu
 cases hr:unRun (((w:Int),(h:Int)),()) with
 | none=>rw[hr] at hu;cases hu
 | some L=>
   have hL:L=(unI w h (12*w*h)).map fun(i:Nat)=>(((i / 3:Nat):Int),((i%3:Nat):Int)):=by
    unfold unRun at hr
    rw[cnt_eq] at hr
    simp only at hr
    rw[Count_ok hw hh] at hr
    simp only[Int.toNat_natCast] at hr
    rw[show 3* (4*w*h)=12*w*h by omega] at hr
    cases hk:okU (w:Int) (h:Int) ((4*w*h:Nat):Int) with
    | true=>rw[hk] at hr;exact(Option.some.inj hr).symm
    | false=>rw[hk] at hr;cases hr
   have hLl:L.length≤1000:=by
    rw[hL,List.length_map]
    have:=List.length_filter_le (unP (w:Int) (h:Int)) (List.range (12*w*h))
    unfold unI
    rw[List.length_range] at this
    omega
   rw[hr,Option.bind_some,listU L [] (by simpa using hLl)] at hu
   have hT:T.map (·.1)=L:=by simpa using hu.symm
   rw[hT,hL]
   unfold unI
   simp only[List.mem_map,List.mem_filter,List.mem_range]
   constructor
   ·rintro ⟨i,⟨h1,h2⟩,rfl⟩
    exact⟨i,h1,h2,rfl⟩
   ·rintro ⟨i,h1,h2,rfl⟩
    exact⟨i,⟨h1,h2⟩,rfl⟩
theorem nb_at (t:Tab w h T) {i:Nat} (hi:i<12*w*h):∃n er,sheets_Neighbour fuel (((w:Int),(h:Int)),(((i / 3:Nat):Int),((i%3:Nat):Int)))=some (n,er)∧nbV w h i=some (n,er)∧(er≠0∨n≠((i / 3:Nat):Int)):=by
 have:=List.all_eq_true.1 t.nb i (List.mem_range.2 hi)
 unfold nbOK at this
 split at this
 ·rename_i n er hn
  refine⟨n,er,?_,hn,by simpa using this⟩
  rw[←nb_eq]
  exact hn
 ·cases this
theorem Name_yes (t:Tab w h T) (hw:1≤w∧w≤6) (hh:1≤h∧h≤6) {u:UnT} (hu:u∈T.map (·.1)):sheets_Name fuel (((w:Int),(h:Int)),u)=some (u,0):=by
 obtain⟨i,hi,hp,rfl⟩:=(unit_mem t hw hh).1 hu
 obtain⟨n,er,h1,h2,h3⟩:=nb_at t hi
 unfold unP at hp
 rw[h2] at hp
 simp only[Bool.and_eq_true,decide_eq_true_eq] at hp
 obtain⟨rfl,hp⟩:=hp
 unfold sheets_Name
 simp only
 rw[h1,Option.bind_some]
 simp only[ne_eq,not_true_eq_false,decide_false,cond_false]
 rw[show min (((i / 3:Nat):Int)) n=((i / 3:Nat):Int) by omega]
theorem Name_no (t:Tab w h T) (hw:1≤w∧w≤6) (hh:1≤h∧h≤6) {u:UnT} (h0:0≤u.2) (hu:u∉T.map (·.1)):∃r,sheets_Name fuel (((w:Int),(h:Int)),u)=some r∧(r.2≠0∨r.1.1≠u.1):=by
 have hwh:w*h≤6*6:=Nat.mul_le_mul hw.2 hh.2
 have e2:12*w*h=12* (w*h):=Nat.mul_assoc _ _ _
 have e3:4*w*h=4* (w*h):=Nat.mul_assoc _ _ _
 have e:4* (w:Int)* (h:Int)=((4*w*h:Nat):Int):=by simp
 by_cases hc:0≤u.1∧u.1< ((4*w*h:Nat):Int)
 rotate_left
 ·
  have hcell:sheets_Cell fuel (((w:Int),(h:Int)),u.1)=some ((0,(0,0)),7):=by
   unfold sheets_Cell
   simp only
   rw[sheet_Check_ok hw hh,Option.bind_some]
   simp only[ne_eq,not_true_eq_false,decide_false,cond_false]
   by_cases g:0≤u.1
   ·have:¬u.1< ((4*w*h:Nat):Int):=fun h=>hc ⟨g,h⟩
    rw[e,i64b_t (by omega) (by omega),i64b_t (by omega) (by omega)]
    simp only[chk,cond_true,g,decide_true,this,decide_false,Bool.not_false]
   ·simp only[g,decide_false,cond_false]
  refine⟨((0,0),7),?_,.inl (by decide)⟩
  unfold sheets_Name sheets_Neighbour
  simp only
  rw[hcell,Option.bind_some]
  rfl
 obtain⟨hc0,hc1⟩:=hc
 by_cases he:2<u.2
 ·
  obtain⟨n,er,h1,_,_⟩:=nb_at t (i:=3*u.1.toNat) (by omega)
  rw[show(((3*u.1.toNat / 3:Nat):Nat):Int)=u.1 by omega] at h1
  unfold sheets_Neighbour at h1
  simp only at h1
  cases hcl:sheets_Cell fuel (((w:Int),(h:Int)),u.1) with
  | none=>rw[hcl] at h1;cases h1
  | some r1=>
    unfold sheets_Name sheets_Neighbour
    simp only
    rw[hcl,Option.bind_some]
    by_cases g:r1.2=0
    ·have hcn:cells_Neighbour fuel ((r1.1.1,(r1.1.2.1,r1.1.2.2)),u.2)=some ((0,(0,0)),1):=by
      unfold cells_Neighbour
      simp only[he,decide_true,cond_true]
      cases decide (r1.1.1 < -4096)<;>cases decide (4096<r1.1.1)<;>cases decide (r1.1.2.1 < -4096)<;>cases decide (4096<r1.1.2.1)<;>cases decide (3<r1.1.2.2)<;>rfl
     simp only[g,ne_eq,not_true_eq_false,decide_false,cond_false]
     rw[hcn,Option.bind_some]
     exact⟨_,rfl,.inl (by decide)⟩
    ·simp only[g,ne_eq,not_false_eq_true,decide_true,cond_true,Option.bind_some]
     exact⟨_,rfl,.inl g⟩
 obtain⟨n,er,h1,h2,h3⟩:=nb_at t (i:=3*u.1.toNat+u.2.toNat) (by omega)
 have ei:(((3*u.1.toNat+u.2.toNat) / 3:Nat):Int)=u.1:=by omega
 have ej:(((3*u.1.toNat+u.2.toNat)%3:Nat):Int)=u.2:=by omega
 rw[ei,ej] at h1
 rw[ei] at h3
 unfold sheets_Name
 simp only
 rw[h1,Option.bind_some]
 by_cases g:er=0
 ·subst g
  simp only[ne_eq,not_true_eq_false,decide_false,cond_false]
  refine⟨_,rfl,.inr ?_⟩
  have hnp:¬u.1<n:=fun hn=>hu ((unit_mem t hw hh).2 ⟨3*u.1.toNat+u.2.toNat,by omega,by unfold unP;rw[h2];simp only[decide_true,Bool.true_and,decide_eq_true_eq];omega,Prod.ext ei.symm ej.symm⟩)
  have h3:n≠u.1:=h3.resolve_left (by simp)
  simp only
  omega
 ·simp only[g,ne_eq,not_false_eq_true,decide_true,cond_true]
  exact⟨_,rfl,.inl g⟩
end
end X
end Go.Vm
namespace Go.Vm
namespace X
open W Go.RowKit Go.Proofs.Un
def kOK (c:CreT):Prop:=1≤c.2.2∧c.2.2≤3
def ltU (u v:UnT):Prop:=u.1<v.1∨u.1=v.1∧u.2<v.2
def AscTo (cr:List CreT) (n:Nat):Prop:=∀j (h:j+1<cr.length),j+1<n→ltU (unitC cr[j]) (unitC cr[j+1])
open Classical in
noncomputable def chkR (T:List LiT) (cr:List CreT):Int:=if ∀c∈cr,kOK c then(if ∀c∈cr,unitC c∈T.map (·.1) then(if AscTo cr cr.length then 0 else 6) else 7) else 1
section
variable {w h:Nat} {T:List LiT}
theorem getElem_take_mem {α:Type} {l:List α} {i:Nat} (hi:i<l.length) {c:α} (hc:c∈l.take (i+1)):c∈l.take i∨c=l[i]:=by
 rw[take_get _ _ hi] at hc
 rcases List.mem_append.1 hc with hc | hc
 ·exact .inl hc
 ·exact .inr (List.mem_singleton.1 hc)
theorem Contains_ok {cr:List CreT} (hl:cr.length≤1000000):∃b,slices_ContainsFunc_patterns_Crease fuel (cr,())=some b∧(b=false↔∀c∈cr,kOK c):=by
 have:∃r,slices_IndexFunc_patterns_Crease fuel (cr,())=some r∧(r<0↔∀c∈cr,kOK c):=by
  suffices hs:Ret (slices_IndexFunc_patterns_Crease fuel (cr,())) fun r=>(r<0↔∀c∈cr,kOK c) from hs.imp fun r h=>h
  unfold slices_IndexFunc_patterns_Crease
  refine Ret_loop (fun i:Int=>0≤i∧i≤cr.length∧∀c∈cr.take i.toNat,kOK c) (fun i=>cr.length-i.toNat) ?_ fuel 0 ⟨by omega,by omega,by simp⟩ (by simp only[fuel];omega)
  rintro i' rec ⟨i0,i1,hno⟩ hrec
  obtain⟨i,rfl⟩:∃i:Nat,i'=(i:Int):=⟨i'.toNat,by omega⟩
  rw[Int.toNat_natCast] at hno
  refine Ret_dec (fun hlt=>?_) fun hge=>?_
  ·have hlt:(i:Int)< (cr.length:Int):=hlt
   have hi:i<cr.length:=by omega
   refine Ret_chk (inb_t i0 hlt) ?_
   simp only
   rw[getD_at hi]
   have bad:¬kOK cr[i]→((i:Int)<0↔∀c∈cr,kOK c):=fun hb=>⟨fun g=>absurd g (by omega),fun g=>absurd (g _ (List.getElem_mem hi)) hb⟩
   refine Ret_dec (fun g1=>Ret_bif (fun g2=>Ret_some (bad ?_)) fun g2=>?_) fun g1=>Ret_some (bad fun g=>g1 g.1)
   ·intro g
    have:=g.2
    simp[this] at g2
   ·have hk:kOK cr[i]:=⟨g1,by simpa using g2⟩
    refine Ret_chk (i64b_t (by omega) (by omega)) (hrec _ ⟨by omega,by omega,fun c hc=>?_⟩ (by omega))
    rw[show((i:Int)+1).toNat=i+1 by omega] at hc
    rcases getElem_take_mem hi hc with hc | rfl
    ·exact hno c hc
    ·exact hk
  ·have hge:¬(i:Int)< (cr.length:Int):=hge
   rw[List.take_of_length_le (by omega)] at hno
   exact Ret_some ⟨fun _=>hno,fun _=>by decide⟩
 obtain⟨r,hr,hi⟩:=this
 refine⟨decide (0≤r),?_,?_⟩
 ·unfold slices_ContainsFunc_patterns_Crease
  rw[hr,Option.bind_some]
 ·rw[decide_eq_false_iff_not,←hi];omega
theorem mem_unit {u:UnT} (t:Tab w h T) (hw:1≤w∧w≤6) (hh:1≤h∧h≤6) (hu:u∈T.map (·.1)):0≤u.1∧u.1≤1000∧0≤u.2∧u.2≤2:=by
 obtain⟨x,hx,rfl⟩:=List.mem_map.1 hu
 have li:=t.li hx
 have h1:=li.u0;have h2:=li.u1;have h3:=li.e0;have h4:=li.e2
 have:w*h≤6*6:=Nat.mul_le_mul hw.2 hh.2
 have e:(4* (w:Int)*h)=4* ((w*h:Nat):Int):=by rw[Int.natCast_mul,Int.mul_assoc]
 omega
theorem asc_next {cr:List CreT} {i:Nat} (h:AscTo cr (i+1)) (hi:i+1<cr.length) (hl:ltU (unitC cr[i]) (unitC cr[i+1])):AscTo cr (i+2):=fun j hj hjn=>by
 by_cases e:j=i
 ·subst e;exact hl
 ·exact h j hj (by omega)
theorem Check_pat (t:Tab w h T) (hw:1≤w∧w≤6) (hh:1≤h∧h≤6) {cr:List CreT} (hl:cr.length≤1000000) (hu:∀c∈cr,0≤c.2.1):patterns_Check fuel ((w:Int),((h:Int),cr))=some (chkR T cr):=by
 obtain⟨b,hb,hb2⟩:=Contains_ok hl
 apply Ret.eq
 unfold patterns_Check
 simp only
 rw[sheet_Check_ok hw hh,Option.bind_some,hb,Option.bind_some]
 refine Ret_dec (fun g=>absurd rfl g) fun _=>Ret_bif (fun hbt=>Ret_some ?_) fun hbf=>?_
 ·unfold chkR
  rw[if_neg fun h=>by rw[hb2.2 h] at hbt;cases hbt]
 have hk:=hb2.1 hbf
 unfold chkR
 rw[if_pos hk]
 refine Ret_loop (fun i:Int=>0≤i∧i≤cr.length∧∀c∈cr.take i.toNat,unitC c∈T.map (·.1)) (fun i=>cr.length-i.toNat) ?_ fuel 0 ⟨by omega,by omega,by simp⟩ (by simp only[fuel];omega)
 rintro i' rec ⟨i0,i1,hno⟩ hrec
 obtain⟨i,rfl⟩:∃i:Nat,i'=(i:Int):=⟨i'.toNat,by omega⟩
 rw[Int.toNat_natCast] at hno
 refine Ret_dec (fun hlt=>?_) fun hge=>?_
 ·have hi:i<cr.length:=by omega
  refine Ret_chk (inb_t i0 hlt) ?_
  rw[getD_at hi,show((cr[i].1,cr[i].2.1):UnT)=unitC cr[i] from rfl]
  by_cases hm:unitC cr[i]∈T.map (·.1)
  ·rw[Name_yes t hw hh hm,Option.bind_some]
   refine Ret_dec (fun g=>absurd rfl g) fun _=>Ret_bif (fun g=>by simp[unitC] at g) fun _=>?_
   refine Ret_chk (i64b_t (by omega) (by omega)) (hrec _ ⟨by omega,by omega,fun c hc=>?_⟩ (by omega))
   rw[show((i:Int)+1).toNat=i+1 by omega] at hc
   rcases getElem_take_mem hi hc with hc | rfl
   ·exact hno c hc
   ·exact hm
  ·obtain⟨r,hr,hr2⟩:=Name_no t hw hh (hu _ (List.getElem_mem hi)) hm
   rw[hr,Option.bind_some,if_neg fun h=>hm (h _ (List.getElem_mem hi))]
   refine Ret_dec (fun _=>Ret_some rfl) fun g=>?_
   have hr3:=hr2.resolve_left g
   exact Ret_bif (fun _=>Ret_some rfl) fun g2=>by simp[unitC] at g2 hr3;exact absurd g2.1 hr3
 rw[List.take_of_length_le (by omega)] at hno
 rw[if_pos hno]
 clear hrec i1 hge
 refine Ret_loop (fun i:Int=>∃n:Nat,i=(n:Int)+1∧(n+1≤cr.length∨n=0)∧AscTo cr (n+1)) (fun i=>cr.length+1-i.toNat) ?_ fuel 1 ⟨0,rfl,.inr rfl,fun j hj hjn=>by omega⟩ (by simp only[fuel];omega)
 rintro i' rec ⟨n,rfl,hn,hasc⟩ hrec
 refine Ret_dec (fun hlt=>?_) fun hge=>?_
 ·have hi:n+1<cr.length:=by omega
  have e1:((n:Int)+1-1).toNat=n:=by omega
  refine Ret_chk (i64b_t (by omega) (by omega)) (Ret_chk (inb_t (by omega) (by omega)) (Ret_chk (inb_t (by omega) hlt) ?_))
  have g1:cr.getD ((n:Int)+1-1).toNat (0,(0,0))=cr[n]:=by rw[e1,←getD_at (d:=(0,(0,0))) (show n<cr.length by omega)];rw[Int.toNat_natCast]
  have g2:cr.getD ((n:Int)+1).toNat (0,(0,0))=cr[n+1]:=by rw[←getD_at (d:=(0,(0,0))) hi];rfl
  rw[g1,g2]
  have m1:=mem_unit t hw hh (hno _ (List.getElem_mem (show n<cr.length by omega)))
  have m2:=mem_unit t hw hh (hno _ (List.getElem_mem hi))
  unfold unitC at m1 m2
  simp only at m1 m2
  have ho:∃r,patterns_order fuel ((cr[n].1,cr[n].2.1),(cr[n+1].1,cr[n+1].2.1))=some r∧(0≤r↔¬ltU (unitC cr[n]) (unitC cr[n+1])):=by
   unfold patterns_order ltU unitC
   simp only
   by_cases e:cr[n].1=cr[n+1].1
   ·rw[show(decide (cr[n].1≠cr[n+1].1))=false by simp[e],cond_false,i64b_t (by omega) (by omega),i64b_t (by omega) (by omega),i64b_t (by omega) (by omega)]
    refine⟨_,rfl,?_⟩
    omega
   ·rw[show(decide (cr[n].1≠cr[n+1].1))=true by simp[e],cond_true,i64b_t (by omega) (by omega)]
    refine⟨_,rfl,?_⟩
    omega
  obtain⟨r,hr,hr2⟩:=ho
  rw[hr,Option.bind_some]
  refine Ret_dec (fun g=>Ret_some ?_) fun g=>?_
  ·rw[if_neg (show ¬AscTo cr cr.length from fun h=>hr2.1 g (h n hi hi))]
  ·have hlt2:ltU (unitC cr[n]) (unitC cr[n+1]):=Classical.byContradiction fun hc=>g (hr2.2 hc)
   exact Ret_chk (i64b_t (by omega) (by omega)) (hrec _ ⟨n+1,by simp,by omega,asc_next hasc hi hlt2⟩ (by omega))
 ·refine Ret_some ?_
  rw[if_pos (show AscTo cr cr.length from fun j hj hjn=>hasc j hj (by omega))]
end
end X
end Go.Vm
namespace Go.Vm
namespace X
open W Go.RowKit Go.Proofs.Un
def ngo (a b:SgT):Bool:= !decide (goes a b)
def extS (c e:SgT):SgT:=(c.1,(c.2.1,(c.2.2.1,e.2.2.2)))
def growG:SgT→List SgT→List SgT
 | c,[]=>[c]
 | c,e::l=>if goes c e then growG (extS c e) l else c::growG e l
theorem run_grow:∀(l:List SgT) (out:List SgT) (c:SgT),(∀e∈l,e.1≠0)→runG (out,some c) l=out++growG c l
 | [],out,c,_=>rfl
 | e::l,out,c,h=>by
   have he:=h e List.mem_cons_self
   have hl:∀e∈l,e.1≠0:=fun x hx=>h x (List.mem_cons_of_mem _ hx)
   simp only[growG]
   by_cases g:goes c e
   ·rw[runG,step_ext he g,if_pos g]
    exact run_grow l out (extS c e) hl
   ·rw[runG,step_new he g,if_neg g,run_grow l _ e hl]
    simp
theorem grow_head:∀(l:List SgT) (c:SgT),∃d r,growG c l=d::r∧d.1=c.1∧d.2.1=c.2.1∧d.2.2.1=c.2.2.1
 | [],c=>⟨c,[],rfl,rfl,rfl,rfl⟩
 | e::l,c=>by
   simp only[growG]
   by_cases g:goes c e
   ·rw[if_pos g]
    obtain⟨d,r,h1,h2,h3,h4⟩:=grow_head l (extS c e)
    exact⟨d,r,h1,h2,h3,h4⟩
   ·rw[if_neg g]
    exact⟨c,_,rfl,rfl,rfl,rfl⟩
theorem grow_ng:∀(l:List SgT) (c:SgT),adj ngo (growG c l)=true
 | [],c=>rfl
 | e::l,c=>by
   simp only[growG]
   by_cases g:goes c e
   ·rw[if_pos g];exact grow_ng l _
   ·rw[if_neg g]
    obtain⟨d,r,h1,h2,h3,h4⟩:=grow_head l e
    have ih:=grow_ng l e
    rw[h1] at ih ⊢
    have:ngo c d=true:=by
     unfold ngo
     simp only[Bool.not_eq_true',decide_eq_false_iff_not]
     rintro ⟨g1,g2,g3⟩
     exact g ⟨by rw[g1,h2],by rw[g2,h3],by rw[g3,h4]⟩
    have e:adj ngo (c::d::r)=(ngo c d&&adj ngo (d::r)):=rfl
    rw[e,this,ih]
    rfl
def RunA (K:UnT→Int) (k:Int) (l:Int×Int):Int→List LiT→Int→Prop
 | p,[],q=>p=q
 | p,x::r,q=>K x.1=k∧x.2.1=l∧x.2.2.1=p∧RunA K k l x.2.2.2 r q
theorem RunA_snoc {K:UnT→Int} {k:Int} {l:Int×Int}:∀ {r:List LiT} {p q:Int} {x:LiT},RunA K k l p r q→K x.1=k→x.2.1=l→x.2.2.1=q→RunA K k l p (r++[x]) x.2.2.2
 | [],p,q,x,h,h1,h2,h3=>by cases h;exact⟨h1,h2,h3,rfl⟩
 | y::r,p,q,x,h,h1,h2,h3=>⟨h.1,h.2.1,h.2.2.1,RunA_snoc h.2.2.2 h1 h2 h3⟩
structure Run (K:UnT→Int) (s:SgT) (r:List LiT):Prop where
 ne:r≠[]
 run:RunA K s.1 s.2.1 s.2.2.1 r s.2.2.2
theorem grow_runs {K:UnT→Int}:∀(l:List LiT) (c:SgT) (r:List LiT),Run K c r→∃RS:List (SgT×List LiT),growG c (kW K l)=RS.map (·.1)∧(∀s∈RS,Run K s.1 s.2)∧RS.flatMap (·.2)=r++l
 | [],c,r,h=>⟨[(c,r)],rfl,fun s hs=>by rw[List.mem_singleton.1 hs];exact h,by simp⟩
 | x::l,c,r,h=>by
   have e:growG c (kW K (x::l))=if goes c (K x.1,x.2) then growG (extS c (K x.1,x.2)) (kW K l) else c::growG (K x.1,x.2) (kW K l):=rfl
   rw[e]
   by_cases g:goes c (K x.1,x.2)
   ·rw[if_pos g]
    obtain⟨RS,h1,h2,h3⟩:=grow_runs l (extS c (K x.1,x.2)) (r++[x]) ⟨by simp,RunA_snoc h.run g.1.symm g.2.1.symm g.2.2.symm⟩
    exact⟨RS,h1,h2,by rw[h3];simp⟩
   ·rw[if_neg g]
    obtain⟨RS,h1,h2,h3⟩:=grow_runs l (K x.1,x.2) [x] ⟨by simp,rfl,rfl,rfl,rfl⟩
    refine⟨(c,r)::RS,by rw[h1];rfl,fun s hs=>?_,by rw[List.flatMap_cons,h3];simp⟩
    rcases List.mem_cons.1 hs with rfl | hs
    ·exact h
    ·exact h2 s hs
section
variable {w h:Nat} {T:List LiT}
def fL (T:List LiT) (w h:Nat) (K:UnT→Int):List LiT:=(walkS T w h).filter fun x=>decide (K x.1≠0)
theorem segF_eq (K:UnT→Int):segF T w h K=kW K (fL T w h K):=by
 unfold segF fL kW
 rw[List.filter_map]
 rfl
theorem fL_mem (t:Tab w h T) {K:UnT→Int} {x:LiT}:x∈fL T w h K↔x∈T∧K x.1≠0:=by
 unfold fL
 rw[List.mem_filter,walk_mem t]
 simp
theorem seg_runs (t:Tab w h T) (K:UnT→Int):∃RS:List (SgT×List LiT),segR T w h K=RS.map (·.1)∧(∀s∈RS,Run K s.1 s.2)∧RS.flatMap (·.2)=fL T w h K:=by
 rw[segR_F t,segF_eq]
 have hN:∀x∈fL T w h K,K x.1≠0:=fun x hx=>((fL_mem t).1 hx).2
 cases hf:fL T w h K with
 | nil=>exact⟨[],rfl,(fun s hs=>by cases hs),rfl⟩
 | cons x r=>
   rw[hf] at hN
   have h0:=hN x List.mem_cons_self
   have e:runG ([],none) (kW K (x::r))=growG (K x.1,x.2) (kW K r):=by
    have:runG ([],none) (kW K (x::r))=runG (stepG ([],none) (K x.1,x.2)) (kW K r):=rfl
    rw[this,step_n1 h0,run_grow]
    ·rfl
    ·intro e he
     obtain⟨y,hy,rfl⟩:=List.mem_map.1 he
     exact hN y (List.mem_cons_of_mem _ hy)
   rw[e]
   exact grow_runs r _ [x] ⟨by simp,rfl,rfl,rfl,rfl⟩
theorem seg_ng (t:Tab w h T) (K:UnT→Int):adj ngo (segR T w h K)=true:=by
 rw[segR_F t,segF_eq]
 have hN:∀x∈fL T w h K,K x.1≠0:=fun x hx=>((fL_mem t).1 hx).2
 cases hf:fL T w h K with
 | nil=>rfl
 | cons x r=>
   rw[hf] at hN
   have h0:=hN x List.mem_cons_self
   have:runG ([],none) (kW K (x::r))=runG (stepG ([],none) (K x.1,x.2)) (kW K r):=rfl
   rw[this,step_n1 h0,run_grow]
   ·exact grow_ng _ _
   ·intro e he
    obtain⟨y,hy,rfl⟩:=List.mem_map.1 he
    exact hN y (List.mem_cons_of_mem _ hy)
theorem RunA_units (hT:TB T) (hk:KeyD T) {K:UnT→Int} {k:Int} {l:Int×Int} {q:Int}:∀(r:List LiT) (p:Int),(∀x∈r,x∈T)→RunA K k l p r q→wkS T l q p=some (r.map (·.1))∧p≤q
 | [],p,_,h=>by
   cases h
   rw[wkS_eq hT,if_pos rfl]
   exact⟨rfl,Int.le_refl _⟩
 | x::r,p,hm,⟨h1,h2,h3,h4⟩=>by
   have hx:=hm x List.mem_cons_self
   obtain⟨i1,i2⟩:=RunA_units hT hk r _ (fun y hy=>hm y (List.mem_cons_of_mem _ hy)) h4
   have:=hT x hx
   have hl:lkT T l p=some x:=by rw[←h2,←h3];exact lkT_mem hk hx
   rw[wkS_eq hT,if_neg (by omega),hl]
   simp only
   rw[if_neg (by omega),i1]
   exact⟨rfl,by omega⟩
theorem Run_units (t:Tab w h T) (hw:w≤6) (hh:h≤6) {K:UnT→Int} {s:SgT} {r:List LiT} (hr:Run K s r) (hm:∀x∈r,x∈T) (hK:∀x∈r,1≤K x.1∧K x.1≤3):unitsR T s=(r.map (·.1),0):=by
 have hT:=t.tb hw hh
 obtain⟨h1,h2⟩:=RunA_units hT t.key r _ hm hr.run
 cases r with
 | nil=>exact absurd rfl hr.ne
 | cons x r=>
   obtain⟨g1,g2,g3,g4⟩:=hr.run
   have hx:=hm x List.mem_cons_self
   have hk:=hK x List.mem_cons_self
   have li:=t.li hx
   have:=(RunA_units hT t.key r _ (fun y hy=>hm y (List.mem_cons_of_mem _ hy)) g4).2
   have b:=hT x hx
   have a1:=li.k1;have a2:=li.k4;have a3:=li.c0;have a4:=li.c1
   rw[g2] at a1 a2 a3 a4
   have ho:OrdP s:=⟨by omega,by omega,a1,a2,by omega,by omega,by omega⟩
   rw[unitsR_yes ho,h1]
end
section
variable {w h:Nat} {T:List LiT}
theorem addU_all {k:Int} (hk:1≤k∧k≤3):∀(us:List UnT) (out:List CreT),OutOK T out→(out.map unitC++us).Nodup→(∀v∈us,v∈T.map (·.1))→addU k out us=some (out++us.map fun v=>(v.1,(v.2,k)))
 | [],out,_,_,_=>by simp[addU]
 | v::us,out,ho,hn,hs=>by
   have hv:kindIn out v=0:=by
    rw[kindIn_0 ho]
    intro hm
    rw[List.nodup_append] at hn
    exact hn.2.2 v hm v List.mem_cons_self rfl
   have e1:(out++[(v.1,(v.2,k))]).map unitC++us=out.map unitC++v::us:=by simp[unitC]
   rw[addU,if_pos hv,addU_all hk us _ (ho.add hv (hs v List.mem_cons_self) hk) (by rw[e1];exact hn) fun x hx=>hs x (List.mem_cons_of_mem _ hx)]
   simp
theorem patL_all (t:Tab w h T) (hw:w≤6) (hh:h≤6) {K:UnT→Int}:∀(RS:List (SgT×List LiT)) (i:Int) (out:List CreT),OutOK T out→(∀s∈RS,Run K s.1 s.2)→(∀x∈RS.flatMap (·.2),x∈T∧1≤K x.1∧K x.1≤3)→
  (out.map unitC++(RS.flatMap (·.2)).map (·.1)).Nodup→patL T i out (RS.map (·.1))=.inl (out++(RS.flatMap (·.2)).map fun x=>(x.1.1,(x.1.2,K x.1)))
 | [],i,out,_,_,_,_=>by simp[patL]
 | s::RS,i,out,ho,hr,hm,hn=>by
   have hs:=hr s List.mem_cons_self
   rw[List.flatMap_cons] at hm hn ⊢
   have hm1:∀x∈s.2,x∈T∧1≤K x.1∧K x.1≤3:=fun x hx=>hm x (List.mem_append_left _ hx)
   have hu:=Run_units t hw hh hs (fun x hx=>(hm1 x hx).1) (fun x hx=>(hm1 x hx).2)
   have hK:∀(r:List LiT) (p q:Int),RunA K s.1.1 s.1.2.1 p r q→∀x∈r,K x.1=s.1.1:=by
    intro r
    induction r with
    | nil=>intro p q _ x hx;cases hx
    | cons y r ih=>
      intro p q hr x hx
      rcases List.mem_cons.1 hx with rfl | hx
      ·exact hr.1
      ·exact ih _ _ hr.2.2.2 x hx
   have hK:=hK _ _ _ hs.run
   have hk:1≤s.1.1∧s.1.1≤3:=by
    cases hs2:s.2 with
    | nil=>exact absurd hs2 hs.ne
    | cons y r=>
      rw[hs2] at hK hm1
      rw[←hK y List.mem_cons_self]
      exact(hm1 y List.mem_cons_self).2
   have hn1:(out.map unitC++s.2.map (·.1)).Nodup:=by
    rw[List.map_append,←List.append_assoc] at hn
    exact(List.nodup_append.1 hn).1
   have ha:=addU_all hk (s.2.map (·.1)) out ho hn1 (fun v hv=>by obtain⟨x,hx,rfl⟩:=List.mem_map.1 hv;exact List.mem_map.2 ⟨x,(hm1 x hx).1,rfl⟩)
   have ho2:=addU_ok hk _ _ _ ho (fun v hv=>by obtain⟨x,hx,rfl⟩:=List.mem_map.1 hv;exact List.mem_map.2 ⟨x,(hm1 x hx).1,rfl⟩) ha
   have e2:(s.2.map (·.1)).map (fun v:UnT=>((v.1,(v.2,s.1.1)):CreT))=s.2.map fun x=>(x.1.1,(x.1.2,K x.1)):=by
    rw[List.map_map]
    refine List.map_congr_left fun x hx=>?_
    simp only[Function.comp_apply]
    rw[hK x hx]
   rw[List.map_cons,patL,hu]
   simp only[if_true]
   rw[ha]
   simp only
   rw[patL_all t hw hh RS _ _ ho2 (fun x hx=>hr x (List.mem_cons_of_mem _ hx)) (fun x hx=>hm x (List.mem_append_right _ hx)) ?_,e2]
   ·simp
   ·have e3:(out++(s.2.map (·.1)).map (fun v:UnT=>((v.1,(v.2,s.1.1)):CreT))).map unitC=out.map unitC++s.2.map (·.1):=by
     rw[List.map_append,List.map_map]
     congr 1
     exact(List.map_congr_left fun x hx=>rfl).trans (List.map_id' _)
    rw[e3,List.append_assoc,←List.map_append]
    exact hn
end
end X
end Go.Vm
namespace Go.Vm
namespace X
open W
end X
end Go.Vm
namespace Go.Vm
namespace X
open W Go.RowKit Go.Proofs.Un
theorem withR_sub:∀(U:List UnT) (A:List Int),((withR U A).map unitC).Sublist U
 | [],A=>by cases A<;>exact List.Sublist.refl _
 | u::U,[]=>List.nil_sublist _
 | u::U,a::A=>by
   by_cases h:a=0
   ·rw[withR,if_pos h]
    exact(withR_sub U A).cons _
   ·rw[withR,if_neg h,List.map_cons]
    exact(withR_sub U A).cons_cons _
theorem withR_kind:∀(U:List UnT) (A:List Int) (c:CreT),c∈withR U A→c.2.2∈A∧c.2.2≠0
 | [],A,c,h=>by cases A<;>cases h
 | u::U,[],c,h=>by cases h
 | u::U,a::A,c,h=>by
   by_cases h0:a=0
   ·rw[withR,if_pos h0] at h
    have:=withR_kind U A c h
    exact⟨List.mem_cons_of_mem _ this.1,this.2⟩
   ·rw[withR,if_neg h0] at h
    rcases List.mem_cons.1 h with rfl | h
    ·exact⟨List.mem_cons_self,h0⟩
    ·have:=withR_kind U A c h
     exact⟨List.mem_cons_of_mem _ this.1,this.2⟩
structure PatOK (T:List LiT) (cr:List CreT):Prop where
 ok:OutOK T cr
 pw:(cr.map unitC).Pairwise ltU
section
variable {w h:Nat} {T:List LiT}
theorem withR_ok (t:Tab w h T) {A:List Int} (hA:∀a∈A,0≤a∧a≤3):PatOK T (withR (T.map (·.1)) A):=by
 have hs:=withR_sub (T.map (·.1)) A
 refine⟨⟨hs.nodup t.ndU,fun c hc=>hs.subset (List.mem_map.2 ⟨c,hc,rfl⟩),fun c hc=>?_⟩,List.Pairwise.sublist hs t.asc⟩
 have:=withR_kind _ _ _ hc
 have:=hA _ this.1
 omega
theorem filt_self (t:Tab w h T) (hw:1≤w∧w≤6) (hh:1≤h∧h≤6) {cr:List CreT} (ho:PatOK T cr):filt T cr=cr:=by
 have hs:=filt_sorted t cr
 refine sortC_uniq cfC (fun x hx y hy h1 h2=>?_) (hs.imp fun {a b} h c=>by rw[cfC_lt] at *;omega) ?_ (filt_perm t ho.ok).symm
 ·obtain⟨i,hi,rfl⟩:=List.getElem_of_mem hx
  obtain⟨j,hj,rfl⟩:=List.getElem_of_mem hy
  rw[List.pairwise_iff_getElem] at hs
  rcases Nat.lt_trichotomy i j with g | g | g
  ·exact absurd (hs i j hi hj g) h1
  ·subst g;rfl
  ·exact absurd (hs j i hj hi g) h2
 ·have hp:=List.pairwise_map.1 ho.pw
  have:cr.Pairwise fun a b=>(a∈cr∧b∈cr)∧ltU (unitC a) (unitC b):=by
   rw[List.pairwise_iff_getElem] at hp ⊢
   exact fun i j hi hj hij=>⟨⟨List.getElem_mem _,List.getElem_mem _⟩,hp i j hi hj hij⟩
  refine this.imp fun {a b} ⟨⟨ha,hb⟩,hl⟩ c=>?_
  have m1:=mem_unit t hw hh (ho.ok.sub a ha)
  have m2:=mem_unit t hw hh (ho.ok.sub b hb)
  unfold unitC at m1 m2
  simp only at m1 m2
  rw[cfC_lt,w64 (by omega) (by omega),w64 (by omega) (by omega)] at c
  unfold ltU unitC at hl
  simp only at hl
  omega
theorem chkR_0 {cr:List CreT} (ho:PatOK T cr):chkR T cr=0:=by
 unfold chkR
 rw[if_pos (show ∀c∈cr,kOK c from ho.ok.k1),if_pos ho.ok.sub,if_pos]
 intro j hj hjn
 have hp:=List.pairwise_map.1 ho.pw
 rw[List.pairwise_iff_getElem] at hp
 exact hp j (j+1) (by omega) hj (by omega)
theorem runs_len {RS:List (SgT×List LiT)} {K:UnT→Int} (h:∀s∈RS,Run K s.1 s.2):RS.length≤(RS.flatMap (·.2)).length:=by
 induction RS with
 | nil=>simp
 | cons s RS ih=>
   have h1:=(h s List.mem_cons_self).ne
   have h2:=ih fun x hx=>h x (List.mem_cons_of_mem _ hx)
   rw[List.flatMap_cons,List.length_append,List.length_cons]
   have:1≤s.2.length:=by
    cases hs:s.2 with
    | nil=>exact absurd hs h1
    | cons y r=>simp
   omega
structure SegOK (T:List LiT) (w h:Nat) (cr:List CreT) (X:List SgT):Prop where
 len:X.length≤1000
 un:∀s∈X,(unitsR T s).2=0
 sum:(X.map fun s=>(unitsR T s).1.length).sum=cr.length
 pat:patR T w h X=(((w:Int),((h:Int),cr)),(0,0))
 ng:adj ngo X=true
theorem seg_ok (t:Tab w h T) (hw:1≤w∧w≤6) (hh:1≤h∧h≤6) {cr:List CreT} (ho:PatOK T cr):SegOK T w h cr (segR T w h (kindIn cr)):=by
 obtain⟨RS,h1,h2,h3⟩:=seg_runs t (kindIn cr)
 have hm:∀x∈RS.flatMap (·.2),x∈T∧1≤kindIn cr x.1∧kindIn cr x.1≤3:=fun x hx=>by
  rw[h3,fL_mem t] at hx
  refine⟨hx.1,?_⟩
  have hin:x.1∈cr.map unitC:=Classical.byContradiction fun hn=>hx.2 ((kindIn_0 ho.ok).2 hn)
  obtain⟨c,hc,ec⟩:=List.mem_map.1 hin
  have:=kindIn_mem ho.ok.nd hc
  rw[ec] at this
  rw[this]
  exact ho.ok.k1 c hc
 have hfl:(fL T w h (kindIn cr)).length=cr.length:=by
  have:=(segF_perm t ho.ok).length_eq
  rw[segF_eq,List.length_map] at this
  rw[this]
  unfold kW
  rw[List.length_map]
 have hcl:=ho.ok.len t hw.2 hh.2
 have hu:∀s∈RS,unitsR T s.1=(s.2.map (·.1),0):=fun s hs=>by
  have hsub:∀x∈s.2,x∈RS.flatMap (·.2):=fun x hx=>List.mem_flatMap.2 ⟨s,hs,hx⟩
  exact Run_units t hw.2 hh.2 (h2 s hs) (fun x hx=>(hm x (hsub x hx)).1) fun x hx=>(hm x (hsub x hx)).2
 have hnd:((RS.flatMap (·.2)).map (·.1)).Nodup:=by
  rw[h3]
  unfold fL
  have hw2:((walkS T w h).map (·.1)).Nodup:=by
   have:=(walk_perm t).map (·.1)
   exact this.symm.nodup t.ndU
  exact(List.Sublist.map _ List.filter_sublist).nodup hw2
 refine⟨?_,?_,?_,?_,seg_ng t _⟩
 ·rw[h1,List.length_map]
  have:=runs_len h2
  rw[h3,hfl] at this
  omega
 ·intro s hs
  rw[h1] at hs
  obtain⟨r,hr,rfl⟩:=List.mem_map.1 hs
  rw[hu r hr]
 ·rw[h1,List.map_map,←hfl,←h3,List.length_flatMap]
  congr 1
  refine List.map_congr_left fun s hs=>?_
  simp only[Function.comp_apply]
  rw[hu s hs,List.length_map]
 ·unfold patR
  rw[h1,patL_all t hw.2 hh.2 RS 0 [] out_nil h2 hm (by simpa using hnd)]
  simp only[List.nil_append]
  have hout:OutOK T ((RS.flatMap (·.2)).map fun x=>((x.1.1,(x.1.2,kindIn cr x.1)):CreT)):=by
   refine patL_ok (RS.map (·.1)) 0 [] _ out_nil ?_
   rw[patL_all t hw.2 hh.2 RS 0 [] out_nil h2 hm (by simpa using hnd)]
   rfl
  have hfe:filt T ((RS.flatMap (·.2)).map fun x=>((x.1.1,(x.1.2,kindIn cr x.1)):CreT))=filt T cr:=by
   unfold filt
   refine filterMap_cong fun x hx=>?_
   have hk:kindIn ((RS.flatMap (·.2)).map fun x=>((x.1.1,(x.1.2,kindIn cr x.1)):CreT)) x.1=kindIn cr x.1:=by
    by_cases h0:kindIn cr x.1=0
    ·rw[h0,kindIn_0 hout]
     intro hin
     obtain⟨c,hc,ec⟩:=List.mem_map.1 hin
     obtain⟨y,hy,rfl⟩:=List.mem_map.1 hc
     have hy2:=hm y hy
     have:y.1=x.1:=ec
     rw[this,h0] at hy2
     omega
    ·have hin:x∈RS.flatMap (·.2):=by rw[h3,fL_mem t];exact⟨hx,h0⟩
     exact kindIn_mem hout.nd (c:=(x.1.1,(x.1.2,kindIn cr x.1))) (List.mem_map.2 ⟨x,hin,rfl⟩)
   rw[hk]
  rw[hfe,filt_self t hw hh ho]
theorem lv:law07_lives fuel ()=some true:=lives07
theorem Of_P (t:Tab w h T) (hw:1≤w∧w≤6) (hh:1≤h∧h≤6) {cr:List CreT} (ho:PatOK T cr):segments_Of fuel ((w:Int),((h:Int),cr))=some (segR T w h (kindIn cr),0):=by
 have hcl:=ho.ok.len t hw.2 hh.2
 refine Of_ok t hw hh ?_ ho.ok
 rw[Check_pat t hw hh (by omega) fun c hc=>(mem_unit t hw hh (ho.ok.sub c hc)).2.2.1,chkR_0 ho]
theorem P_Of_ok {a:Int×(Int×List Int)} (h1:0≤a.1) (h3:0≤a.2.1) (hk:∀k∈a.2.2,0≤k):
  ∃w h:Nat,(1≤w∧w≤4)∧(1≤h∧h≤4)∧∀T,Tab w h T→∃cr,PatOK T cr∧law06_P_Of fuel a=some ((w:Int),((h:Int),cr)):=by
 refine⟨1+ (a.1%4).toNat,1+ (a.2.1%4).toNat,by omega,by omega,fun T t=>?_⟩
 suffices hs:Ret (law06_P_Of fuel a) fun r=>∃A:List Int,(∀k∈A,0≤k∧k≤3)∧r=(((1+ (a.1%4).toNat:Nat):Int),(((1+ (a.2.1%4).toNat:Nat):Int),withR (T.map (·.1)) A)) by
  obtain⟨r,hr,A,hA,rfl⟩:=hs
  exact⟨_,withR_ok t hA,hr⟩
 have ew:1+a.1%4=((1+ (a.1%4).toNat:Nat):Int):=by omega
 have eh:1+a.2.1%4=((1+ (a.2.1%4).toNat:Nat):Int):=by omega
 generalize hw:1+ (a.1%4).toNat=w at ew t ⊢
 generalize hh:1+ (a.2.1%4).toNat=h at eh t ⊢
 have bw:1≤w∧w≤6:=by omega
 have bh:1≤h∧h≤6:=by omega
 have hwh:w*h≤6*6:=Nat.mul_le_mul bw.2 bh.2
 have e6:6* (w:Int)* (h:Int)=((6* (w*h):Nat):Int):=by simp[Int.mul_assoc]
 unfold law06_P_Of
 rw[ew,eh]
 refine Ret_chk (by simp only[Bool.and_eq_true,decide_eq_true_eq];omega) (Ret_chk (i64b_t (by omega) (by omega)) (Ret_chk (i64b_t (by omega) (by omega)) (Ret_chk (by simp only[Bool.and_eq_true,decide_eq_true_eq];omega) (Ret_chk (i64b_t (by omega) (by omega)) (Ret_chk (i64b_t (by omega) (by omega)) (Ret_chk (i64b_t (by omega) (by omega)) (Ret_chk (by rw[e6];exact i64b_t (by omega) (by omega)) (Ret_chk (by rw[e6];simp only[Bool.and_eq_true,decide_eq_true_eq];omega) ?_))))))))
 have hlen:(List.replicate (α:=Int) (6* (w:Int)* (h:Int)).toNat 0).length=6* (w*h):=by rw[List.length_replicate,e6,Int.toNat_natCast]
 have fin:∀A:List Int,A.length=6* (w*h)→(∀k∈A,0≤k∧k≤3)→Ret ((ref06_With fuel (((w:Int),(h:Int)),A)).bind fun r2=>some (r2.1,(r2.2.1,r2.2.2))) fun r=>∃A:List Int,(∀k∈A,0≤k∧k≤3)∧r=((w:Int),((h:Int),withR (T.map (·.1)) A)):=fun A hA hA2=>by
  rw[With_ok t bw bh (by omega),Option.bind_some]
  exact Ret_some ⟨A,hA2,rfl⟩
 refine Ret_loop (fun s:Int×(List Int×Option Nat)=>0≤s.1∧s.1≤6* (w*h)∧s.2.1.length=6* (w*h)∧∀k∈s.2.1,0≤k∧k≤3) (fun s=>6* (w*h)-s.1.toNat) ?_ fuel _ ⟨by omega,by omega,hlen,fun k hk=>by have:=(List.mem_replicate.1 hk).2;omega⟩ (by simp only[fuel];omega)
 rintro ⟨i,A,cp⟩ rec ⟨i0,i1,hA,hA2⟩ hrec
 simp only at i0 i1 hA hA2
 refine Ret_dec (fun g1=>Ret_dec (fun g2=>?_) fun _=>fin A hA hA2) fun _=>fin A hA hA2
 simp only at g1 g2
 have hi:i.toNat<a.2.2.length:=by omega
 have hge:0≤a.2.2.getD i.toNat 0:=by
  rw[List.getD_eq_getElem?_getD,List.getElem?_eq_getElem hi]
  exact hk _ (List.getElem_mem hi)
 refine Ret_chk (inb_t i0 g2) (Ret_chk (by simp only[Bool.and_eq_true,decide_eq_true_eq];omega) (Ret_chk (inb_t i0 g1) (Ret_chk (i64b_t (by omega) (by omega)) (hrec _ ⟨by simp only;omega,by simp only;omega,by simp only[List.length_set];exact hA,fun k hk=>?_⟩ (by simp only;omega)))))
 simp only at hk
 rcases List.mem_or_eq_of_mem_set hk with hk | rfl
 ·exact hA2 k hk
 ·omega
end
end X
end Go.Vm
namespace Go.Vm
namespace X
open W Go.RowKit Go.Proofs.Un
def fl (k:Int):Int:=if k=1 then 2 else if k=2 then 1 else k
theorem fl_inj {a b:Int}:fl a=fl b↔a=b:=by
 unfold fl
 split<;>split<;>(try split)<;>(try split)<;>omega
theorem fl_0 {k:Int}:fl k=0↔k=0:=by
 unfold fl
 split<;>(try split)<;>omega
theorem fl_bd {k:Int} (h:1≤k∧k≤3):1≤fl k∧fl k≤3:=by
 unfold fl
 split<;>(try split)<;>omega
def flS (e:SgT):SgT:=(fl e.1,e.2)
def flC (c:CreT):CreT:=(c.1,(c.2.1,fl c.2.2))
theorem goes_fl {c e:SgT}:goes (flS c) (flS e)↔goes c e:=by
 unfold goes flS
 simp only[fl_inj]
theorem step_fl (out:List SgT) (cur:Option SgT) (e:SgT):stepG (out.map flS,cur.map flS) (flS e)=((stepG (out,cur) e).1.map flS,(stepG (out,cur) e).2.map flS):=by
 have h0:(flS e).1≠0↔e.1≠0:=not_congr fl_0
 cases cur with
 | none=>
   by_cases g:e.1≠0
   ·rw[Option.map_none,step_n1 (h0.2 g),step_n1 g];rfl
   ·have g:e.1=0:=Classical.not_not.1 g
    rw[Option.map_none,step_n0 (fl_0.2 g),step_n0 g];rfl
 | some c=>
   rw[Option.map_some]
   by_cases g:e.1≠0
   ·by_cases q:goes c e
    ·rw[step_ext (h0.2 g) (goes_fl.2 q),step_ext g q];rfl
    ·rw[step_new (h0.2 g) (fun h=>q (goes_fl.1 h)),step_new g q]
     simp
   ·have g:e.1=0:=Classical.not_not.1 g
    rw[step_no (fl_0.2 g),step_no g]
    simp
theorem run_fl:∀(l:List SgT) (out:List SgT) (cur:Option SgT),runG (out.map flS,cur.map flS) (l.map flS)=(runG (out,cur) l).map flS
 | [],out,cur=>by cases cur<;>simp[runG]
 | e::l,out,cur=>by
   have e1:runG (out.map flS,cur.map flS) ((e::l).map flS)=runG (stepG (out.map flS,cur.map flS) (flS e)) (l.map flS):=rfl
   have e2:runG (out,cur) (e::l)=runG (stepG (out,cur) e) l:=rfl
   rw[e1,e2,step_fl]
   exact run_fl l _ _
theorem seg_fl (T:List LiT) (w h:Nat) (K K2:UnT→Int) (hK:∀u,K2 u=fl (K u)):segR T w h K2=(segR T w h K).map flS:=by
 have e:kW K2 (walkS T w h)=(kW K (walkS T w h)).map flS:=by
  unfold kW
  rw[List.map_map]
  refine List.map_congr_left fun x _=>?_
  simp only[Function.comp_apply,flS,hK]
 unfold segR
 rw[e]
 exact run_fl _ [] none
theorem kind_fl (cr:List CreT) (u:UnT):kindIn (cr.map flC) u=fl (kindIn cr u):=by
 unfold kindIn
 rw[List.find?_map]
 have e:(isU u∘flC)=isU u:=rfl
 rw[e]
 cases cr.find? (isU u)<;>rfl
section
variable {w h:Nat} {T:List LiT}
theorem fl_ok {cr:List CreT} (ho:PatOK T cr):PatOK T (cr.map flC):=by
 have e:(cr.map flC).map unitC=cr.map unitC:=by
  rw[List.map_map]
  rfl
 refine⟨⟨by rw[e];exact ho.ok.nd,fun c hc=>?_,fun c hc=>?_⟩,by rw[e];exact ho.pw⟩
 ·obtain⟨d,hd,rfl⟩:=List.mem_map.1 hc
  exact ho.ok.sub d hd
 ·obtain⟨d,hd,rfl⟩:=List.mem_map.1 hc
  exact fl_bd (ho.ok.k1 d hd)
theorem copy_all (cr:List CreT) (z:CreT):List.take 0 (List.replicate (α:=CreT) cr.length z)++(List.take (min cr.length (List.replicate (α:=CreT) cr.length z).length) cr++List.drop (0+ (min cr.length (List.replicate (α:=CreT) cr.length z).length)) (List.replicate (α:=CreT) cr.length z))=cr:=by
 have e:min cr.length (List.replicate (α:=CreT) cr.length z).length=cr.length:=by rw[List.length_replicate,Nat.min_self]
 rw[e,List.take_zero,List.nil_append,List.take_length,Nat.zero_add,List.drop_of_length_le (by rw[List.length_replicate];exact Nat.le_refl _),List.append_nil]
theorem Opposite_ok (t:Tab w h T) (hw:1≤w∧w≤6) (hh:1≤h∧h≤6) {cr:List CreT} (ho:PatOK T cr):patterns_Opposite fuel ((w:Int),((h:Int),cr))=some (((w:Int),((h:Int),cr.map flC)),0):=by
 have hcl:=ho.ok.len t hw.2 hh.2
 apply Ret.eq
 unfold patterns_Opposite
 rw[show(((w:Int),((h:Int),cr)).1,(((w:Int),((h:Int),cr)).2.1,((w:Int),((h:Int),cr)).2.2))=((w:Int),((h:Int),cr)) from rfl,Check_pat t hw hh (by omega) (fun c hc=>(mem_unit t hw hh (ho.ok.sub c hc)).2.2.1),chkR_0 ho,Option.bind_some]
 refine Ret_dec (fun g=>absurd rfl g) fun _=>?_
 refine Ret_chk (by simp only[Bool.and_eq_true,decide_eq_true_eq];omega) ?_
 refine Ret_chk ?_ ?_
 ·cases cr with
  | nil=>rfl
  | cons c r=>
    simp only[List.length_replicate,List.length_cons,Bool.or_eq_true,Bool.and_eq_true,Nat.ble_eq]
    exact .inl ⟨by omega,by omega⟩
 have ec:=copy_all cr (0,(0,0))
 simp only
 rw[ec]
 refine Ret_loop (fun s:Int×(List CreT×Option Nat)=>∃i:Nat,s.1=(i:Int)∧i≤cr.length∧s.2.1=(cr.take i).map flC++cr.drop i∧s.2.2=some cr.length) (fun s=>cr.length-s.1.toNat) ?_ fuel (0,(cr,some cr.length)) ⟨0,rfl,by omega,by simp,rfl⟩ (by simp only[fuel];omega)
 rintro ⟨i',A,cp⟩ rec ⟨i,hi',hil,hA,hcp⟩ hrec
 simp only at hi' hA hcp
 subst hi' hcp
 have hAl:A.length=cr.length:=by rw[hA];simp;omega
 refine Ret_dec (fun hlt=>?_) fun hge=>?_
 ·have hi:i<cr.length:=by simp only at hlt;omega
  have hin:inb (i:Int) A.length=true:=inb_t (by omega) (by rw[hAl];omega)
  have hA2:A=(cr.take i).map flC++cr[i]::cr.drop (i+1):=by rw[hA,drop_cons hi]
  have hl:((cr.take i).map flC).length=i:=by simp;omega
  have hg:A.getD ((i:Int).toNat) (0,(0,0))=cr[i]:=by
   rw[Int.toNat_natCast,hA2,List.getD_eq_getElem?_getD,List.getElem?_append_right (by rw[hl];exact Nat.le_refl _),hl,Nat.sub_self]
   rfl
  simp only
  rw[hg]
  have hk:=ho.ok.k1 _ (List.getElem_mem hi)
  have hf:([0,2,1,3]:List Int).getD (cr[i].2.2:Int).toNat 0=fl cr[i].2.2:=by
   rcases(by omega:cr[i].2.2=1∨cr[i].2.2=2∨cr[i].2.2=3) with e | e | e<;>(rw[e];rfl)
  rw[hf]
  refine Ret_chk hin (Ret_chk (inb_t (by omega) (by omega)) (Ret_chk hin (Ret_chk (i64b_t (by omega) (by omega)) (hrec _ ⟨i+1,by simp,hi,?_,rfl⟩ (by simp only;omega)))))
  simp only
  rw[Int.toNat_natCast,hA2,List.set_append_right _ _ (by rw[hl];exact Nat.le_refl _),hl,Nat.sub_self,List.set_cons_zero,take_get _ _ hi,List.map_append,List.map_singleton,List.append_assoc]
  rfl
 ·have:i=cr.length:=by simp only at hge;omega
  subst this
  rw[List.take_length,List.drop_length,List.append_nil] at hA
  refine Ret_chk (by simp only[capIs];rw[hAl];simp) (Ret_some ?_)
  simp only
  rw[hA]
theorem turned_law (t:Tab w h T) (hw:1≤w∧w≤6) (hh:1≤h∧h≤6) {cr:List CreT} (ho:PatOK T cr) {a:Int×(Int×List Int)} (ha:law06_P_Of fuel a=some ((w:Int),((h:Int),cr))):law07_SegmentsTurned fuel a=some true:=by
 have hs:=seg_ok t hw hh ho
 apply Ret.eq
 unfold law07_SegmentsTurned
 rw[show(a.1,(a.2.1,a.2.2))=a from rfl,ha,Option.bind_some]
 simp only
 rw[Of_P t hw hh ho,Option.bind_some,Opposite_ok t hw hh ho,Option.bind_some]
 simp only
 rw[Of_P t hw hh (fl_ok ho),Option.bind_some,seg_fl T w h (kindIn cr) (kindIn (cr.map flC)) (kind_fl cr)]
 generalize segR T w h (kindIn cr)=X at hs ⊢
 have hX:=hs.len
 have hl:(X.map flS).length=X.length:=List.length_map ..
 refine Ret_dec (fun g=>absurd (by trivial) g) fun _=>Ret_dec (fun g=>absurd (by trivial) g) fun _=>Ret_dec (fun g=>absurd (by trivial) g) fun _=>Ret_dec (fun g=>absurd (by simp) g) fun _=>?_
 refine Ret_loop (fun i:Int=>0≤i∧i≤X.length) (fun i=>X.length-i.toNat) ?_ fuel 0 ⟨by omega,by omega⟩ (by simp only[fuel];omega)
 rintro i' rec ⟨i0,i1⟩ hrec
 obtain⟨i,rfl⟩:∃i:Nat,i'=(i:Int):=⟨i'.toNat,by omega⟩
 refine Ret_dec (fun hlt=>?_) fun _=>lives_bind
 have hlt:(i:Int)< (X.length:Int):=hlt
 have hi:i<X.length:=by omega
 have hO:ref06_Other fuel X[i].1=some (fl X[i].1):=by
  unfold ref06_Other fl
  by_cases h1:X[i].1=1
  ·simp[h1]
  ·by_cases h2:X[i].1=2
   ·simp[h2]
   ·simp[h1,h2]
 have hg2:(X.map flS).getD ((i:Int).toNat) (0,((0,0),(0,0)))=flS X[i]:=by
  rw[getD_at (by rw[hl];exact hi),List.getElem_map]
 simp only
 rw[getD_at hi,hg2,hO,Option.bind_some]
 refine Ret_chk (inb_t i0 hlt) (Ret_chk (inb_t i0 (by rw[hl];exact hlt)) (Ret_bif (fun g=>by simp[flS] at g) fun _=>?_))
 exact Ret_chk (i64b_t (by omega) (by omega)) (hrec _ ⟨by omega,by omega⟩ (by omega))
end
theorem SegmentsTurned_true (tab:∀w h:Nat,(1≤w∧w≤5)→(1≤h∧h≤5)→∃T,Tab w h T) {a:Int×(Int×List Int)} (h1:0≤a.1) (h3:0≤a.2.1) (hk:∀k∈a.2.2,0≤k):
  law07_SegmentsTurned fuel a=some true:=by
 obtain⟨w,h,hw,hh,H⟩:=P_Of_ok h1 h3 hk
 obtain⟨T,t⟩:=tab w h (by omega) (by omega)
 obtain⟨cr,ho,ha⟩:=H T t
 exact turned_law t (by omega) (by omega) ho ha
end X
end Go.Vm
