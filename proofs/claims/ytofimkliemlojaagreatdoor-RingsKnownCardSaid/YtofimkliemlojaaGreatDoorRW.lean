/-
  Rings: piles that are the same, and the least of them: what is shared with the piles of strips.
  Rings: all orders in their order; Least; the law RingsLeast.
  Rings: Least.
  Rings: the search for the ways.
  Rings: the law RingsCount.
  Rings: the law RingsLeast.
-/
import Derived.Test.YtofimkliemlojaaGreatDoorRB
set_option linter.unusedSimpArgs false
set_option linter.unusedVariables false
set_option linter.unusedSectionVars false
set_option linter.unnecessarySimpa false
namespace Go.Vm
namespace X
open W
theorem jr2 {L M:List Int} (hl:L.length=M.length) (h:∀i:Nat,i<L.length→L.getD i 0=M.getD i 0):L=M:=by
 apply List.ext_getElem hl
 intro i h1 h2
 have:=h i h1
 simpa[List.getD,List.getElem?_eq_getElem h1,List.getElem?_eq_getElem h2] using this
def ovl (E:List Int) (i k:Nat):Bool:=decide (frm E i<too E k)&&decide (frm E k<too E i)
def SameP (E:List Int) (n:Nat) (p q:List Int):Prop:=∀i k:Int,0≤k→k<i→i<n→ovl E i.toNat k.toNat=true→(rkF p i<rkF p k↔rkF q i<rkF q k)
theorem jjk {E:List Int} {i k:Nat}:ovl E i k=ovl E k i:=by unfold ovl;rw[Bool.and_comm]
theorem SameP.all {E:List Int} {n:Nat} {p q:List Int} (hp:Ord n p) (hq:Ord n q) (h:SameP E n p q) {i k:Int} (h1:0≤i) (h2:i<n) (h3:0≤k) (h4:k<n) (ho:ovl E i.toNat k.toNat=true):rkF p i<rkF p k↔rkF q i<rkF q k:=by
 rcases Int.lt_trichotomy i k with e | e | e
 ·have:=h k i h1 e h4 (by rw[jjk];exact ho)
  have a:rkF p i≠rkF p k:=fun g=>by have:=jim (hp.memI h1 h2) (hp.memI h3 h4) g;omega
  have b:rkF q i≠rkF q k:=fun g=>by have:=jim (hq.memI h1 h2) (hq.memI h3 h4) g;omega
  omega
 ·subst e;omega
 ·exact h i k h3 e h2 ho
theorem SameP.refl {E:List Int} {n:Nat} {p:List Int}:SameP E n p p:=fun _ _ _ _ _ _=>Iff.rfl
theorem juy {n:Nat} {f:List Int→List (List Int)}:∀ {L:List (List Int)},(∀l∈L,(f l).length=n)→(L.flatMap f).length=L.length*n
 | [],_=>by simp
 | a::L,h=>by
   rw[List.flatMap_cons,List.length_append,juy fun l hl=>h l (List.mem_cons_of_mem _ hl),h a List.mem_cons_self,List.length_cons,Nat.add_mul]
   omega
def LexLt (a b:List Int):Prop:=∃m:Nat,m<a.length∧m<b.length∧(∀k:Nat,k<m→a.getD k 0=b.getD k 0)∧a.getD m 0<b.getD m 0
theorem LexLt.trans {a b c:List Int} (h:LexLt a b) (h':LexLt b c):LexLt a c:=by
 obtain⟨m,a1,a2,a3,a4⟩:=h
 obtain⟨k,b1,b2,b3,b4⟩:=h'
 rcases Nat.lt_trichotomy m k with e | e | e
 ·exact⟨m,a1,by omega,fun j hj=>(a3 j hj).trans (b3 j (by omega)),by rw[←b3 m e];exact a4⟩
 ·subst e;exact⟨m,a1,b2,fun j hj=>(a3 j hj).trans (b3 j hj),by omega⟩
 ·exact⟨k,by omega,b2,fun j hj=>(a3 j (by omega)).trans (b3 j hj),by rw[a3 k e];exact b4⟩
theorem jt8 {a b:List Int} (hl:a.length=b.length) (h1:¬LexLt a b) (h2:¬LexLt b a):a=b:=by
 have key:∀m:Nat,m≤a.length→∀k:Nat,k<m→a.getD k 0=b.getD k 0:=by
  intro m
  induction m with
  | zero=>intro _ k hk;omega
  | succ m ih=>
    intro hm k hk
    by_cases e:k=m
    ·subst e
     rcases Int.lt_trichotomy (a.getD k 0) (b.getD k 0) with g | g | g
     ·exact absurd ⟨k,by omega,by omega,ih (by omega),g⟩ h1
     ·exact g
     ·exact absurd ⟨k,by omega,by omega,fun j hj=>(ih (by omega) j hj).symm,g⟩ h2
    ·exact ih (by omega) k (by omega)
 exact jr2 hl fun i hi=>key a.length (Nat.le_refl _) i hi
def Free (E:List Int) (n:Nat) (p o:List Int) (i:Int):Prop:=i∉o∧∀k:Int,0≤k→k<n→k∈o∨rkF p i≤rkF p k∨ovl E i.toNat k.toNat=false
structure Greedy (E:List Int) (n:Nat) (p L:List Int):Prop where
 nd:L.Nodup
 rng:In n L
 free:∀m:Nat,m<L.length→Free E n p (L.take m) (L.getD m 0)
 least:∀m:Nat,m<L.length→∀j:Int,0≤j→j<n→Free E n p (L.take m) j→L.getD m 0≤j
theorem kif {E:List Int} {n:Nat} {p o:List Int} (hp:Ord n p) (ho:o.length<n):∃j:Int,0≤j∧j<n∧Free E n p o j:=by
 have hl:=hp.len
 have hex:∃i:Nat,i<p.length∧p.getD i 0∉o:=Classical.byContradiction fun hc=>by
  obtain⟨q,hq⟩:=jli (l:=p) (p:=o) hp.nodup fun x hx=>Classical.byContradiction fun hx'=>by
   obtain⟨a,b,c⟩:=jjs hx
   exact hc ⟨_,a,by rw[b];exact hx'⟩
  have:=hq.length_eq
  rw[List.length_append] at this
  omega
 obtain⟨i,hi,hni,hmin⟩:∃i:Nat,i<p.length∧p.getD i 0∉o∧∀k:Nat,k<i→p.getD k 0∈o:=by
  obtain⟨i,h1,h2⟩:=hex
  induction i using Nat.strongRecOn with
  | _ i ih=>
    by_cases h:∀k:Nat,k<i→p.getD k 0∈o
    ·exact⟨i,h1,h2,h⟩
    ·have:∃k,k<i∧p.getD k 0∉o:=Classical.byContradiction fun hc=>h fun k hk=>Classical.byContradiction fun g=>hc ⟨k,hk,g⟩
     obtain⟨k,a,b⟩:=this
     exact ih k a (by omega) b
 have hx:=hp.in _ (jau hi)
 refine⟨p.getD i 0,hx.1,hx.2,hni,fun k h0 h1=>?_⟩
 obtain⟨a,b,c⟩:=jjs (hp.memI h0 h1)
 rw[jvu hp.nodup hi]
 by_cases g:(rkF p k).toNat<i
 ·left;rw[←b];exact hmin _ g
 ·right;left;omega
theorem Greedy.ord {E:List Int} {n:Nat} {p L:List Int} (h:Greedy E n p L) (hl:L.length=n):Ord n L:=by
 obtain⟨q,hq⟩:=jli (l:=L) (p:=idL n) h.nd fun x hx=>jhg.2 (h.rng x hx)
 have:=hq.length_eq
 rw[List.length_append,jta] at this
 have:q=[]:=List.eq_nil_of_length_eq_zero (by omega)
 subst this
 rw[List.append_nil] at hq
 exact hq.symm
theorem j4l {L:List Int} {n:Nat} (h:Ord n L) {m:Nat} (hm:m≤L.length) {x:Int}:x∈L.take m↔x∈L∧rkF L x<m:=by
 constructor
 ·intro hx
  obtain⟨i,hi,e⟩:=List.mem_iff_getElem.1 hx
  rw[List.length_take] at hi
  have hx':=List.mem_of_mem_take hx
  refine⟨hx',?_⟩
  rw[List.getElem_take] at e
  have:=jvu h.nodup (i:=i) (by omega)
  rw[List.getD,List.getElem?_eq_getElem (by omega),Option.getD_some,e] at this
  omega
 ·rintro ⟨h1,h2⟩
  obtain⟨a,b,c⟩:=jjs h1
  refine List.mem_iff_getElem.2 ⟨(rkF L x).toNat,by rw[List.length_take];omega,?_⟩
  rw[List.getElem_take]
  rw[List.getD,List.getElem?_eq_getElem a,Option.getD_some] at b
  exact b
theorem Greedy.same {E:List Int} {n:Nat} {p L:List Int} (h:Greedy E n p L) (hp:Ord n p) (hl:L.length=n):SameP E n p L:=by
 have hL:=h.ord hl
 have key:∀i k:Int,0≤i→i<n→0≤k→k<n→ovl E i.toNat k.toNat=true→rkF p k<rkF p i→rkF L k<rkF L i:=fun i k a b c d ho hlt=>by
  obtain⟨q1,q2,q3⟩:=jjs (hL.memI a b)
  have hf:=h.free _ q1
  rw[q2] at hf
  rcases hf.2 k c d with g | g | g
  ·have:=(j4l hL (by omega)).1 g
   omega
  ·omega
  ·rw[ho] at g;cases g
 intro i k h1 h2 h3 ho
 constructor
 ·intro hlt;exact key k i h1 (by omega) (by omega) h3 (by rw[jjk];exact ho) hlt
 ·intro hlt
  have hne:rkF p i≠rkF p k:=fun e=>by
   have:=jim (hp.memI (by omega) h3) (hp.memI h1 (by omega)) e
   omega
  rcases Int.lt_or_le (rkF p i) (rkF p k) with g | g
  ·exact g
  ·have:=key i k (by omega) h3 h1 (by omega) ho (by omega)
   omega
theorem Greedy.first {E:List Int} {n:Nat} {p L q:List Int} (h:Greedy E n p L) (hp:Ord n p) (hl:L.length=n) (hq:Ord n q) (hs:SameP E n p q):¬LexLt q L:=by
 rintro ⟨m,a1,a2,a3,a4⟩
 have et:q.take m=L.take m:=jr2 (by rw[List.length_take,List.length_take];omega) fun i hi=>by
  rw[List.length_take] at hi
  have:=a3 i (by omega)
  rw[List.getD,List.getD] at this ⊢
  rw[List.getElem?_take,List.getElem?_take,if_pos (by omega),if_pos (by omega)]
  exact this
 have hx:=hq.in _ (jau (L:=q) (i:=m) a1)
 have hr:=jvu hq.nodup a1
 have:=h.least m a2 (q.getD m 0) hx.1 hx.2 ⟨fun g=>?_,fun k h0 h1=>?_⟩
 ·omega
 ·rw[←et] at g
  have:=(j4l hq (by omega)).1 g
  omega
 ·cases ho:ovl E (q.getD m 0).toNat k.toNat with
  | false=>exact .inr (.inr rfl)
  | true=>
    have:=hs.all hp hq h0 h1 hx.1 hx.2 (by rw[jjk];exact ho)
    by_cases g:rkF p k<rkF p (q.getD m 0)
    ·left
     rw[←et]
     exact(j4l hq (by omega)).2 ⟨hq.memI h0 h1,by have:=this.1 g;omega⟩
    ·right;left;omega
theorem Greedy.snoc {E:List Int} {n:Nat} {p o:List Int} {i:Int} (h:Greedy E n p o) (h0:0≤i) (h1:i<n) (hf:Free E n p o i) (hm:∀j:Int,0≤j→j<n→Free E n p o j→i≤j):Greedy E n p (o++[i]):=by
 have tk:∀m:Nat,m< (o++[i]).length→(m<o.length∧(o++[i]).take m=o.take m∧(o++[i]).getD m 0=o.getD m 0)∨((o++[i]).take m=o∧(o++[i]).getD m 0=i):=fun m hm=>by
  rw[List.length_append,List.length_singleton] at hm
  by_cases e:m<o.length
  ·left
   refine⟨e,List.take_append_of_le_length (by omega),?_⟩
   rw[List.getD,List.getD,List.getElem?_append_left e]
  ·right
   have:m=o.length:=by omega
   subst this
   refine⟨by simp,by simp[List.getD]⟩
 refine⟨?_,?_,fun m hm'=>?_,fun m hm' j a b c=>?_⟩
 ·rw[List.nodup_append]
  refine⟨h.nd,by simp,fun a ha b hb e=>?_⟩
  simp at hb
  exact hf.1 (by rw[←hb,←e];exact ha)
 ·intro x hx
  rcases List.mem_append.1 hx with g | g
  ·exact h.rng x g
  ·simp at g;subst g;exact⟨h0,h1⟩
 ·rcases tk m hm' with⟨e1,e2,e3⟩ | ⟨e2,e3⟩
  ·rw[e2,e3];exact h.free m e1
  ·rw[e2,e3];exact hf
 ·rcases tk m hm' with⟨e1,e2,e3⟩ | ⟨e2,e3⟩
  ·rw[e2] at c;rw[e3];exact h.least m e1 j a b c
  ·rw[e2] at c;rw[e3];exact hm j a b c
end X
end Go.Vm
namespace Go.Vm
namespace X
open W Go.Proofs.St
def shf (f x:Int):Int:=if f≤x then x+1 else x
theorem kd3 {f x y:Int}:x<y↔shf f x<shf f y:=by unfold shf;split<;>split<;>omega
def jrj:Nat→List (List Int)
 | 0=>[[]]
 | n+1=>(List.range (n+1)).flatMap fun(f:Nat)=>(jrj n).map fun l=>(f:Int)::l.map (shf f)
theorem jri:∀ {n:Nat} {l:List Int},l∈jrj n→Ord n l
 | 0,l,h=>by simp[jrj] at h;subst h;exact List.Perm.refl _
 | n+1,l,h=>by
   obtain⟨f,hf,h⟩:=List.mem_flatMap.1 h
   obtain⟨m,hm,rfl⟩:=List.mem_map.1 h
   have ho:=jri hm
   have hf:=List.mem_range.1 hf
   refine j65 (by rw[List.length_cons,List.length_map,ho.len]) fun i hi=>?_
   rcases Nat.lt_trichotomy i f with e | e | e
   ·exact List.mem_cons_of_mem _ (List.mem_map.2 ⟨i,ho.mem (by omega),by unfold shf;rw[if_neg (by omega)]⟩)
   ·subst e;exact List.mem_cons_self
   ·exact List.mem_cons_of_mem _ (List.mem_map.2 ⟨(i-1:Nat),ho.mem (by omega),by unfold shf;rw[if_pos (by omega)];omega⟩)
theorem juv:∀ {n:Nat} {l:List Int},Ord n l→l∈jrj n
 | 0,l,h=>by
   rw[List.eq_nil_of_length_eq_zero h.len];simp[jrj]
 | n+1,[],h=>by have:=h.len;simp at this
 | n+1,f::t,h=>by
   have hf:=h.in f List.mem_cons_self
   have hl:=h.len
   have hnd:=h.nodup
   rw[List.nodup_cons] at hnd
   have ht:∀x∈t,x≠f:=fun x hx e=>hnd.1 (e▸hx)
   have ho:Ord n (t.map fun x=>if f<x then x-1 else x):=by
    refine j65 (by rw[List.length_map];simpa using hl) fun i hi=>?_
    by_cases e:(i:Int)<f
    ·have:=h.mem (i:=i) (by omega)
     rcases List.mem_cons.1 this with g | g
     ·omega
     ·exact List.mem_map.2 ⟨i,g,by rw[if_neg (by omega)]⟩
    ·have:=h.mem (i:=i+1) (by omega)
     rcases List.mem_cons.1 this with g | g
     ·omega
     ·exact List.mem_map.2 ⟨(i+1:Nat),g,by rw[if_pos (by omega)];omega⟩
   refine List.mem_flatMap.2 ⟨f.toNat,List.mem_range.2 (by omega),List.mem_map.2 ⟨_,juv ho,?_⟩⟩
   rw[show((f.toNat:Nat):Int)=f by omega,List.map_map]
   congr 1
   conv=>rhs;rw[←List.map_id t]
   refine List.map_congr_left fun x hx=>?_
   have:=ht x hx
   simp only[Function.comp,id,shf]
   split<;>split<;>omega
theorem j7u {g:Int→Int} (hg:∀x y:Int,x<y↔g x<g y):∀a b:List Int,je2 (a.map g) (b.map g)=je2 a b
 | [],[]=>rfl
 | [],_::_=>rfl
 | _::_,[]=>rfl
 | x::a,y::b=>by
   have h1:=hg x y
   have h2:=hg y x
   simp only[List.map_cons,je2]
   by_cases e:x<y
   ·rw[if_pos (h1.1 e),if_pos e]
   ·rw[if_neg (fun c=>e (h1.2 c)),if_neg e]
    by_cases e2:y<x
    ·rw[if_pos (h2.1 e2),if_pos e2]
    ·rw[if_neg (fun c=>e2 (h2.2 c)),if_neg e2];exact j7u hg a b
theorem jpt:∀n,(jrj n).Pairwise fun a b=>je2 a b<0
 | 0=>by simp[jrj]
 | n+1=>by
   rw[jrj,List.pairwise_flatMap]
   refine⟨fun f hf=>?_,?_⟩
   ·rw[List.pairwise_map]
    refine(jpt n).imp fun {a b} h=>?_
    simp only[je2,Int.lt_irrefl,if_false]
    rw[j7u fun x y=>kd3]
    exact h
   ·refine List.pairwise_lt_range.imp fun {a b} hab x hx y hy=>?_
    obtain⟨l,_,rfl⟩:=List.mem_map.1 hx
    obtain⟨m,_,rfl⟩:=List.mem_map.1 hy
    simp only[je2]
    rw[if_pos (by omega)]
    omega
theorem j7v:∀ {a b:List Int},a.length=b.length→je2 a b<0→LexLt a b
 | [],[],_,h=>by simp[je2] at h
 | [],_::_,h,_=>by simp at h
 | _::_,[],h,_=>by simp at h
 | x::a,y::b,hl,h=>by
   simp only[je2] at h
   by_cases e:x<y
   ·exact⟨0,by simp,by simp,fun k hk=>absurd hk (Nat.not_lt_zero _),e⟩
   ·rw[if_neg e] at h
    by_cases e2:y<x
    ·rw[if_pos e2] at h;omega
    ·rw[if_neg e2] at h
     obtain⟨m,h1,h2,h3,h4⟩:=j7v (by simpa using hl) h
     refine⟨m+1,by simpa using h1,by simpa using h2,fun k hk=>?_,h4⟩
     cases k with
     | zero=>show x=y;omega
     | succ k=>exact h3 k (by omega)
theorem jjl (n:Nat):(jrj (n+1)).length=(n+1)* (jrj n).length:=by
 have:∀k,((List.range k).flatMap fun(f:Nat)=>(jrj n).map fun l=>(f:Int)::l.map (shf f)).length=k* (jrj n).length:=by
  intro k
  induction k with
  | zero=>simp
  | succ k ih=>rw[List.range_succ,List.flatMap_append,List.length_append,ih,Nat.succ_mul];simp
 exact this (n+1)
theorem jz0 {n:Nat} (h:n≤6):(jrj n).length≤720:=by
 have h0:(jrj 0).length=1:=rfl
 have h1:=jjl 0;have h2:=jjl 1;have h3:=jjl 2;have h4:=jjl 3;have h5:=jjl 4;have h6:=jjl 5
 simp only[h0,Nat.reduceAdd] at h1
 rw[h1] at h2;simp only[Nat.reduceAdd] at h2
 rw[h2] at h3;simp only[Nat.reduceAdd] at h3
 rw[h3] at h4;simp only[Nat.reduceAdd] at h4
 rw[h4] at h5;simp only[Nat.reduceAdd] at h5
 rw[h5] at h6;simp only[Nat.reduceAdd] at h6
 rcases(by omega:n=0∨n=1∨n=2∨n=3∨n=4∨n=5∨n=6) with rfl | rfl | rfl | rfl | rfl | rfl | rfl<;>omega
theorem jyb {L:List (List Int)} {i:Nat} (h:i<L.length):L.take (i+1)=L.take i++[L.getD i []]:=by
 rw[List.take_add_one,List.getD,List.getElem?_eq_getElem h];rfl
theorem jv6:∀d n:Nat,n<d→n≤6→je0 fuel d (n:Int)=some (jrj n)
 | 0,n,h,_=>absurd h (Nat.not_lt_zero _)
 | d+1,0,_,_=>rfl
 | d+1,n+1,hd,hn=>by
   apply Ret.eq
   unfold je0 jj2
   refine jab (fun g=>by omega) fun _=>?_
   refine jaa (jah (by omega) (by omega)) ?_
   rw[show((n+1:Nat):Int)-1=(n:Int) by omega,jv6 d n (by omega) (by omega),Option.bind_some]
   have hle:=jz0 (n:=n) (by omega)
   have hord:∀l∈jrj n,l.length=n:=fun l hl=>(jri hl).len
   have hran:∀l∈jrj n,∀x∈l,0≤x∧x<n:=fun l hl=>(jri hl).in
   have jbg:∀k,((List.range k).flatMap fun(f:Nat)=>(jrj n).map fun l=>(f:Int)::l.map (shf f)).length=k* (jrj n).length:=by
    intro k
    induction k with
    | zero=>simp
    | succ k ih=>rw[List.range_succ,List.flatMap_append,List.length_append,ih,Nat.succ_mul];simp
   rw[jrj]
   generalize jrj n=R at hle hord hran jbg ⊢
   refine jan (Inv:=fun x:List (List Int)×Int=>0≤x.2∧x.2≤n+1∧x.1=(List.range x.2.toNat).flatMap fun(f:Nat)=>R.map fun l=>(f:Int)::l.map (shf f)) (m:=fun x=>((n:Int)+1-x.2).toNat) ?_ _ _ ⟨by simp,by simp;omega,rfl⟩ (by simp only[fuel];omega)
   rintro ⟨out,f⟩ rec ⟨i1,i2,i3⟩ ih
   simp only at i1 i2 i3 ⊢
   refine jab (fun hlt=>?_) fun hge=>jaj (by rw[i3,show f.toNat=n+1 by omega])
   have ho:out.length≤6*720:=by
    rw[i3,jbg]
    exact Nat.mul_le_mul (by omega) hle
   refine jan (Inv:=fun x:List (List Int)×Int=>0≤x.2∧x.2≤R.length∧x.1=out++(R.take x.2.toNat).map fun l=>f::l.map (shf f)) (m:=fun x=>((R.length:Int)-x.2).toNat) ?_ _ _ ⟨by simp,by simp,by simp⟩ (by simp only[fuel];omega)
   rintro ⟨o2,i⟩ rec2 ⟨j1,j2,j3⟩ ih2
   simp only at j1 j2 j3 ⊢
   refine jab (fun hlt2=>?_) fun hge2=>?_
   ·have hin:=jap (i:=i) (n:=R.length) (by omega) (by omega)
    have hm:R.getD i.toNat []∈R:=by rw[List.getD,List.getElem?_eq_getElem (by omega)];exact List.getElem_mem _
    have et:=jyb (L:=R) (i:=i.toNat) (by omega)
    have ho2:o2.length≤6*720+720:=by rw[j3];simp;omega
    have hl:=hord _ hm
    have hr:=hran _ hm
    generalize R.getD i.toNat []=l at hm et hl hr ⊢
    refine jan (Inv:=fun x:List Int×Int=>0≤x.2∧x.2≤l.length∧x.1=f::(l.take x.2.toNat).map (shf f)) (m:=fun x=>((l.length:Int)-x.2).toNat) ?_ _ _ ⟨by simp,by simp,by simp⟩ (by simp only[fuel];omega)
    rintro ⟨o,k⟩ rec3 ⟨k1,k2,k3⟩ ih3
    simp only at k1 k2 k3 ⊢
    refine jaa hin (jab (fun hlt3=>?_) fun hge3=>?_)
    ·have hx:=hr _ (jau (L:=l) (i:=k.toNat) (by omega))
     have ol:o.length≤10:=by rw[k3];simp;omega
     have nxt:o++[shf f (l.getD k.toNat 0)]=f::(l.take (k+1).toNat).map (shf f):=by
      rw[show(k+1).toNat=k.toNat+1 by omega,jvd (by omega),List.map_append,k3];rfl
     refine jaa hin (jaa (jap (by omega) (by omega)) (jab (fun g=>?_) fun g=>?_))
     ·refine jaa (jah (by omega) (by omega)) (jaa (ja7 (by omega)) (jaa (jah (by omega) (by omega)) (ih3 _ ⟨by simp only;omega,by simp only;omega,?_⟩ (by simp only;omega))))
      simp only
      rw[←nxt,shf,if_pos g]
     ·refine jaa (ja7 (by omega)) (jaa (jah (by omega) (by omega)) (ih3 _ ⟨by simp only;omega,by simp only;omega,?_⟩ (by simp only;omega)))
      simp only
      rw[←nxt,shf,if_neg g]
    ·refine jaa (ja7 (by omega)) (jaa (jah (by omega) (by omega)) (ih2 _ ⟨by simp only;omega,by simp only;omega,?_⟩ (by simp only;omega)))
     simp only
     rw[show(i+1).toNat=i.toNat+1 by omega,et,List.map_append,j3,k3,List.append_assoc,List.take_of_length_le (l:=l) (by omega)]
     rfl
   ·refine jaa (jah (by omega) (by omega)) (ih _ ⟨by simp only;omega,by simp only;omega,?_⟩ (by simp only;omega))
    simp only
    rw[show(f+1).toNat=f.toNat+1 by omega,List.range_succ,List.flatMap_append,j3,i3,List.take_of_length_le (l:=R) (by omega)]
    congr 1
    simp only[List.flatMap_cons,List.flatMap_nil,List.append_nil]
    rw[show((f.toNat:Nat):Int)=f by omega]
theorem jm9 {n:Nat} (h:n≤6):jjp fuel (n:Int)=some (jrj n):=jv6 10 n (by omega) h
end X
end Go.Vm
namespace Go.Vm
namespace X
open W Go.Proofs.St
theorem jby {s:List Int×List Int} (h:RValid s) {p:List Int} (hp:Ord s.1.length p):Ret (jb4 fuel ((s,ja9 s.1),p)) fun r=>r.length=s.1.length∧Greedy (ja9 s.1) s.1.length p r:=by
 classical
 have hn:=h.le
 have hl:=hp.len
 have hel:=joi s.1
 unfold jb4
 refine jax (jhw (p:=p) hp.in hp.nodup hn (by omega)) fun r hR=>?_
 have hr:=hR.rk
 have hr2:=hR.len
 refine jaa (by simp;omega) ?_
 have hrx:=hr.eqF hp
 refine jan (Inv:=fun x:((List Int×Nat)×List Bool)=>x.1.1.length≤s.1.length∧x.1.2=p.length∧x.2.length=32∧(∀i:Nat,i<s.1.length→x.2.getD i false=decide ((i:Int)∈x.1.1))∧Greedy (ja9 s.1) s.1.length p x.1.1) (m:=fun x=>s.1.length-x.1.1.length) ?_ _ _ ⟨by simp,rfl,rfl,fun i hi=>?_,⟨List.nodup_nil,fun x hx=>by simp at hx,fun m hm=>by simp at hm,fun m hm=>by simp at hm⟩⟩ (by simp only[fuel];omega)
 ·rintro ⟨⟨o,cp⟩,tk⟩ rec ⟨i1,i2,i3,i4,i5⟩ ih
  simp only at i1 i2 i3 i4 i5 ⊢
  subst i2
  refine jab (fun hlt=>?_) fun hge=>jaa (by simp[jds];omega) (jaj ⟨by omega,i5⟩)
  obtain⟨j0,f1,f2,f3⟩:=kif (E:=ja9 s.1) hp (o:=o) (by omega)
  refine jan (Inv:=fun x:((List Int×Nat)×(Int×List Bool))=>x.1=(o,p.length)∧x.2.2=tk∧0≤x.2.1∧x.2.1≤p.length∧∀j:Int,0≤j→j<x.2.1→¬Free (ja9 s.1) s.1.length p o j) (m:=fun x=>((p.length:Int)-x.2.1).toNat) ?_ _ _ ⟨rfl,rfl,by simp,by simp,fun j a b=>by simp at b;omega⟩ (by simp only[fuel];omega)
  rintro ⟨⟨o',cp'⟩,i,tk'⟩ rec2 ⟨j1,j2,j3,j4,j5⟩ ih2
  simp only[Prod.mk.injEq] at j1 j2 j3 j4 j5 ⊢
  obtain⟨rfl,rfl⟩:=j1
  subst j2
  refine jab (fun hlt2=>?_) fun hge2=>absurd f3 (j5 j0 f1 (by omega))
  refine jaa (jap (by omega) (by omega)) ?_
  refine jan (Inv:=fun x:Bool×Int=>0≤x.2∧x.2≤p.length∧(x.1=true↔i∉o'∧∀k:Int,0≤k→k<x.2→k∈o'∨rkF p i≤rkF p k∨ovl (ja9 s.1) i.toNat k.toNat=false)) (m:=fun x=>((p.length:Int)-x.2).toNat) ?_ _ _ ⟨by simp,by simp,?_⟩ (by simp only[fuel];omega)
  ·rintro ⟨fr,k⟩ rec3 ⟨k1,k2,k3⟩ ih3
   simp only at k1 k2 k3 ⊢
   refine jab (fun hlt3=>?_) fun hge3=>?_
   ·have nxt:∀b:Bool,(b=true↔fr=true∧(k∈o'∨rkF p i≤rkF p k∨ovl (ja9 s.1) i.toNat k.toNat=false))→Ret (chk (jak (k+1)) (rec3 (b,k+1))) fun r=>r.length=s.1.length∧Greedy (ja9 s.1) s.1.length p r:=fun b hb=>by
     refine jaa (jah (by omega) (by omega)) (ih3 _ ⟨by simp only;omega,by simp only;omega,?_⟩ (by simp only;omega))
     simp only
     rw[hb,k3]
     constructor
     ·rintro ⟨⟨a,b⟩,c⟩
      refine⟨a,fun k' x y=>?_⟩
      by_cases e:k'=k
      ·subst e;exact c
      ·exact b k' x (by omega)
     ·rintro ⟨a,b⟩
      exact⟨⟨a,fun k' x y=>b k' x (by omega)⟩,b k k1 (by omega)⟩
    cases fr with
    | false=>exact nxt false (by simp)
    | true=>
      simp only[cond_true]
      have hk4:=i4 k.toNat (by omega)
      rw[show((k.toNat:Nat):Int)=k by omega] at hk4
      refine jaa (jap (by omega) (by omega)) ?_
      rw[hk4]
      refine jab (fun g=>nxt true (by simp[g])) fun g=>?_
      refine jaa (jap (by omega) (by omega)) (jaa (jap (by omega) (by omega)) ?_)
      rw[hrx i (by omega) (by omega),hrx k (by omega) (by omega)]
      refine jab (fun g2=>nxt true (by simp[g2])) fun g2=>?_
      have ff:∀x:Int,0≤x→x<s.1.length→jbd fuel (((s.1,s.2),ja9 s.1),x)=some (frm (ja9 s.1) x.toNat):=fun x a b=>jq8 hn hel a b
      have ft:∀x:Int,0≤x→x<s.1.length→jbx fuel (((s.1,s.2),ja9 s.1),x)=some (too (ja9 s.1) x.toNat):=fun x a b=>jvv hn hel a b
      rw[ff k k1 (by omega),Option.bind_some,ft i j3 (by omega),Option.bind_some]
      refine jab (fun g3=>nxt true (by simp[ovl];omega)) fun g3=>?_
      rw[ff i j3 (by omega),Option.bind_some,ft k k1 (by omega),Option.bind_some]
      refine nxt _ ?_
      simp only[g,g2,false_or,true_and,ovl,decide_eq_true_eq,Bool.and_eq_false_iff,decide_eq_false_iff_not]
      omega
   ·have hfull:fr=true↔Free (ja9 s.1) s.1.length p o' i:=by
     rw[k3]
     unfold Free
     rw[show k=((s.1.length:Nat):Int) by omega]
    cases fr with
    | true=>
      simp only[cond_true]
      have ea:jjt (some p.length) (o'.length+1)=some p.length:=by
       simp only[jjt]
       rw[show(o'.length+1).ble p.length=true by rw[jad];simp;omega];rfl
      rw[ea]
      refine jaa (jap (by omega) (by omega)) (jaa (ja7 (by omega)) (jaa rfl (ih _ ⟨by simp;omega,rfl,by simp only[List.length_set];exact i3,fun m hm=>?_,i5.snoc j3 (by omega) (hfull.1 rfl) fun j a b c=>?_⟩ (by simp;omega))))
      ·simp only
       rw[List.getD,List.getElem?_set]
       by_cases e:i.toNat=m
       ·rw[if_pos e,if_pos (by omega)]
        simp only[Option.getD_some,List.mem_append,List.mem_singleton]
        rw[show(m:Int)=i by omega]
        simp
       ·rw[if_neg e]
        have:=i4 m hm
        rw[List.getD] at this
        rw[this]
        have hne:¬(m:Int)=i:=by omega
        simp[hne]
      ·rcases Int.lt_or_le j i with g | g
       ·exact absurd c (j5 j a g)
       ·exact g
    | false=>
      refine jaa (jah (by omega) (by omega)) (ih2 _ ⟨rfl,rfl,by simp only;omega,by simp only;omega,fun j a b=>?_⟩ (by simp only;omega))
      simp only at b
      by_cases e:j=i
      ·subst e;exact fun g=>by have:=hfull.2 g;cases this
      ·exact j5 j a (by omega)
  ·simp only
   have hi4:=i4 i.toNat (by omega)
   rw[show((i.toNat:Nat):Int)=i by omega] at hi4
   rw[hi4]
   constructor
   ·intro g
    exact⟨by simpa using g,fun k a b=>by omega⟩
   ·rintro ⟨g,_⟩;simpa using g
 ·simp only
  have:i<32:=by omega
  rw[decide_eq_false (by simp)]
  rcases(by omega:i=0∨i=1∨i=2∨i=3∨i=4∨i=5∨i=6∨i=7∨i=8∨i=9∨i=10∨i=11∨i=12∨i=13∨i=14∨i=15∨i=16∨i=17∨i=18∨i=19∨i=20∨i=21∨i=22∨i=23∨i=24∨i=25∨i=26∨i=27∨i=28∨i=29∨i=30∨i=31) with rfl | rfl | rfl | rfl | rfl | rfl | rfl | rfl | rfl | rfl | rfl | rfl | rfl | rfl | rfl | rfl | rfl | rfl | rfl | rfl | rfl | rfl | rfl | rfl | rfl | rfl | rfl | rfl | rfl | rfl | rfl | rfl<;>rfl
theorem Greedy.unique {E:List Int} {n:Nat} {p q L M:List Int} (h:Greedy E n p L) (h':Greedy E n q M) (hp:Ord n p) (hq:Ord n q) (hl:L.length=n) (hm:M.length=n) (hs:SameP E n p q):L=M:=by
 have hL:=h.ord hl
 have hM:=h'.ord hm
 have sL:=h.same hp hl
 have sM:=h'.same hq hm
 have tr:∀ {a b c:List Int},SameP E n a b→SameP E n b c→SameP E n a c:=fun x y i k u v w o=>(x i k u v w o).trans (y i k u v w o)
 have sy:∀ {a b:List Int},SameP E n a b→SameP E n b a:=fun x i k u v w o=>(x i k u v w o).symm
 exact jt8 (by omega) (h'.first hq hm hL (tr (sy hs) sL)) (h.first hp hl hM (tr hs sM))
theorem jpd {s:List Int×List Int} (h:RValid s) {p:List Int} (hp:Ord s.1.length p):Ret (jgo fuel (s,p)) fun r=>r.2=0∧r.1.length=s.1.length∧Greedy (ja9 s.1) s.1.length p r.1:=by
 unfold jgo
 rw[show jcq fuel ((s.1,s.2),p)=some 0 from jl0 h hp,Option.bind_some]
 refine jab (fun g=>absurd rfl g) fun _=>?_
 rw[show jcv fuel (s.1,s.2)=_ from jio h,Option.bind_some]
 exact jax (jby h hp) fun r hr=>jaj ⟨rfl,hr⟩
theorem j4r {E:List Int} {n:Nat} {p q:List Int} (hp:Ord n p) (hq:Ord n q):(∀a b:Nat,a<b→b<n→ovl E (p.getD a 0).toNat (p.getD b 0).toNat=true→rkF q (p.getD a 0)<rkF q (p.getD b 0))↔SameP E n p q:=by
 have hl:=hp.len
 constructor
 ·intro h i k h0 h1 h2 ho
  obtain⟨a1,a2,a3⟩:=jjs (hp.memI (x:=i) (by omega) h2)
  obtain⟨b1,b2,b3⟩:=jjs (hp.memI (x:=k) h0 (by omega))
  have hne:rkF p i≠rkF p k:=fun e=>by
   have:=jim (hp.memI (x:=i) (by omega) h2) (hp.memI h0 (by omega)) e
   omega
  constructor
  ·intro g
   have:=h (rkF p i).toNat (rkF p k).toNat (by omega) (by omega) (by rw[a2,b2];exact ho)
   rwa[a2,b2] at this
  ·intro g
   rcases Int.lt_or_le (rkF p i) (rkF p k) with g2 | g2
   ·exact g2
   ·have:=h (rkF p k).toNat (rkF p i).toNat (by omega) (by omega) (by rw[a2,b2,jjk];exact ho)
    rw[a2,b2] at this
    omega
 ·intro h a b hab hb ho
  have m1:=hp.in _ (jau (L:=p) (i:=a) (by omega))
  have m2:=hp.in _ (jau (L:=p) (i:=b) (by omega))
  refine(h.all hp hq m1.1 m1.2 m2.1 m2.2 ho).1 ?_
  rw[jvu hp.nodup (by omega),jvu hp.nodup (by omega)]
  omega
end X
end Go.Vm
namespace Go.Vm
namespace X
open W Go.Proofs.St
theorem j83 {E:List Int} {i k:Nat}:ovl E i k=true↔frm E i<too E k∧frm E k<too E i:=by
 unfold ovl
 rw[Bool.and_eq_true,decide_eq_true_iff,decide_eq_true_iff]
def jsv (k:Nat) (q:List Int):List Int:=q.filter fun x=>decide (x< (k:Int))
theorem kb3:∀ {n k:Nat},k≤n→(idL n).filter (fun x:Int=>decide (x< (k:Int)))=idL k
 | 0,k,h=>by rw[show k=0 by omega];rfl
 | n+1,k,h=>by
   rw[jr0,List.filter_append]
   by_cases e:k≤n
   ·rw[kb3 e]
    simp
    omega
   ·rw[show k=n+1 by omega,jr0]
    congr 1
    ·rw[List.filter_eq_self]
     intro x hx
     have:=jhg.1 hx
     simp;omega
    ·simp;omega
theorem juu {n k:Nat} {q:List Int} (h:Ord n q) (hk:k≤n):Ord k (jsv k q):=by
 have:=List.Perm.filter (fun x=>decide (x< (k:Int))) h
 rw[kb3 hk] at this
 exact this
theorem j2f {n:Nat} {q:List Int} (h:Ord n q):jsv n q=q:=by
 rw[jsv,List.filter_eq_self]
 intro x hx
 have:=h.in x hx
 simp;omega
theorem j2d {n:Nat} {q:List Int} (h:Ord n q):jsv 0 q=[]:=by
 rw[jsv,List.filter_eq_nil_iff]
 intro x hx
 have:=h.in x hx
 simp;omega
theorem j2e {n k:Nat} {q:List Int} (h:Ord n q) (hk:k<n):∃a:Nat,a≤k∧jsv (k+1) q=(jsv k q).take a++[(k:Int)]++(jsv k q).drop a:=by
 have h1:=juu h (k:=k+1) (by omega)
 obtain⟨A,B,e⟩:=List.append_of_mem (h1.mem (i:=k) (by omega))
 have hl:=h1.len
 have nd:=h1.nodup
 have e2:jsv k q=A++B:=by
  have e3:jsv k q=(jsv (k+1) q).filter fun x=>decide (x< (k:Int)):=by
   rw[jsv,jsv,List.filter_filter]
   congr 1
   funext x
   rw[Bool.eq_iff_iff]
   simp
   omega
  rw[e3,e,List.filter_append,List.filter_cons,if_neg (by simp)]
  rw[e] at nd
  have hin:∀x,x∈A∨x∈B→x< (k:Int):=fun x hx=>by
   have hm:x∈jsv (k+1) q:=by rw[e];simp only[List.mem_append,List.mem_cons];rcases hx with g | g<;>simp[g]
   have:=h1.in x hm
   have hne:x≠k:=fun e'=>by
    subst e'
    rw[List.nodup_append,List.nodup_cons] at nd
    rcases hx with g | g
    ·exact nd.2.2 _ g _ List.mem_cons_self rfl
    ·exact nd.2.1.1 g
   omega
  congr 1
  ·rw[List.filter_eq_self];intro x hx;simpa using hin x (.inl hx)
  ·rw[List.filter_eq_self];intro x hx;simpa using hin x (.inr hx)
 refine⟨A.length,?_,?_⟩
 ·have:=(juu h (k:=k) (by omega)).len
  rw[e2,List.length_append] at this
  omega
 ·rw[e2,e,List.take_left,List.drop_left]
  simp
theorem kfw {n k:Nat} {q:List Int} (h:Ord n q) (hk:k≤n) {x y:Int} (x0:0≤x) (x1:x<k) (y0:0≤y) (y1:y<k):rkF (jsv k q) x<rkF (jsv k q) y↔rkF q x<rkF q y:=by
 have ho:=juu h hk
 have key:∀a b:Int,0≤a→a<k→0≤b→b<k→rkF (jsv k q) a<rkF (jsv k q) b→rkF q a<rkF q b:=fun a b a0 a1 b0 b1 hlt=>by
  have pw:(jsv k q).Pairwise fun u v=>rkF q u<rkF q v:=(j6w h.nodup).filter _
  obtain⟨u1,u2,u3⟩:=jjs (ho.memI a0 a1)
  obtain⟨v1,v2,v3⟩:=jjs (ho.memI b0 b1)
  have:=List.pairwise_iff_getElem.1 pw _ _ u1 v1 (by omega)
  rw[List.getD,List.getElem?_eq_getElem u1,Option.getD_some] at u2
  rw[List.getD,List.getElem?_eq_getElem v1,Option.getD_some] at v2
  rwa[u2,v2] at this
 refine⟨key x y x0 x1 y0 y1,fun g=>?_⟩
 rcases Int.lt_trichotomy (rkF (jsv k q) x) (rkF (jsv k q) y) with e | e | e
 ·exact e
 ·have:=jim (ho.memI x0 x1) (ho.memI y0 y1) e
  subst this;omega
 ·have:=key y x y0 y1 x0 x1 e
  omega
structure PartOf (n k:Nat) (f g:Int→Int):Prop where
 pos:∀x:Int,0≤x→x<k→0≤f x
 no:∀x:Int,(k:Int)≤x→x<n→f x= -1
 iso:∀x y:Int,0≤x→x<k→0≤y→y<k→(f x<f y↔g x<g y)
theorem PartOf.bet {n k:Nat} {f g:Int→Int} (h:PartOf n k f g) {i x:Int} (i0:0≤i) (i1:i<n) (x0:0≤x) (x1:x<n):
  (jtm n f i x→i<k∧sc n i<k∧x<k)∧(i<k→sc n i<k→x<k→(jtm n f i x↔jk8 n g i x)):=by
 have s0:0≤sc n i∧sc n i<n:=by unfold sc;split<;>omega
 have a1:i<k∨f i= -1:=by rcases Int.lt_or_le i k with c | c;exact .inl c;exact .inr (h.no i c i1)
 have a2:sc n i<k∨f (sc n i)= -1:=by rcases Int.lt_or_le (sc n i) k with c | c;exact .inl c;exact .inr (h.no _ c s0.2)
 have a3:x<k∨f x= -1:=by rcases Int.lt_or_le x k with c | c;exact .inl c;exact .inr (h.no _ c x1)
 unfold jtm jk8
 refine⟨fun hb=>by omega,fun b1 b2 b3=>?_⟩
 have:=h.pos i i0 b1;have:=h.pos _ s0.1 b2
 have:=h.iso i x i0 b1 x0 b3;have:=h.iso x i x0 b3 i0 b1;have:=h.iso _ x s0.1 b2 x0 b3;have:=h.iso x _ x0 b3 s0.1 b2
 omega
theorem PartOf.cross {E:List Int} {n k:Nat} {f g:Int→Int} (h:PartOf n k f g) (hc:jxa E n f):jdz E n g:=by
 obtain⟨i,i0,i1,hc⟩:=hc
 have ss:∀j:Int,0≤j→j<n→0≤sc n j∧sc n j<n:=fun j a b=>by unfold sc;split<;>omega
 refine⟨i,i0,i1,?_⟩
 rcases hc with⟨j,j0,j1,e1,e2,e3⟩ | ⟨j,j0,j1,e1,e2,e3,e4,e5⟩
 ·obtain⟨b1,b2⟩:=h.bet i0 i1 j0 j1
  obtain⟨c1,c2,c3⟩:=b1 e3
  exact .inl ⟨j,j0,j1,e1,e2,(b2 c1 c2 c3).1 e3⟩
 ·have sj:=ss j j0 j1
  have si:=ss i i0 i1
  obtain⟨b1,b2⟩:=h.bet i0 i1 j0 j1
  obtain⟨b3,b4⟩:=h.bet i0 i1 sj.1 sj.2
  have jk:j<k∧sc n j<k:=by
   have a1:j<k∨f j= -1:=by rcases Int.lt_or_le j k with c | c;exact .inl c;exact .inr (h.no j c j1)
   have a2:sc n j<k∨f (sc n j)= -1:=by rcases Int.lt_or_le (sc n j) k with c | c;exact .inl c;exact .inr (h.no _ c sj.2)
   omega
  by_cases c:i<k∧sc n i<k
  ·exact .inr ⟨j,j0,j1,e1,e2,e3,by rw[←b2 c.1 c.2 jk.1,←b4 c.1 c.2 jk.2];exact e5⟩
  ·exact absurd ⟨fun g=>absurd ⟨(b1 g).1,(b1 g).2.1⟩ c,fun g=>absurd ⟨(b3 g).1,(b3 g).2.1⟩ c⟩ e5
theorem PartOf.wrong {K:List Int} {n k:Nat} {f g:Int→Int} (h:PartOf n k f g) (hw:j76 K n f):jny K n g:=by
 obtain⟨i,i0,i1,e1,e2,e3⟩:=hw
 have si:0≤sc n i∧sc n i<n:=by unfold sc;split<;>omega
 have a1:i<k∨f i= -1:=by rcases Int.lt_or_le i k with c | c;exact .inl c;exact .inr (h.no i c i1)
 have a2:sc n i<k∨f (sc n i)= -1:=by rcases Int.lt_or_le (sc n i) k with c | c;exact .inl c;exact .inr (h.no _ c si.2)
 have t1:=h.iso i _ i0 (by omega) si.1 (by omega)
 have t2:=h.iso _ i si.1 (by omega) i0 (by omega)
 refine⟨i,i0,i1,e1,fun e=>e3 (e.trans ?_)⟩
 unfold je1
 by_cases c:i%2=0
 ·rw[if_pos c,if_pos c]
  by_cases d:f i<f (sc n i)
  ·rw[if_pos d,if_pos (t1.1 d)]
  ·rw[if_neg d,if_neg (fun x=>d (t1.2 x))]
 ·rw[if_neg c,if_neg c]
  by_cases d:f (sc n i)<f i
  ·rw[if_pos d,if_pos (t2.1 d)]
  ·rw[if_neg d,if_neg (fun x=>d (t2.2 x))]
theorem j8v {E:List Int} {n:Nat} (h:REnds E n) {p q:List Int} (hp:Ord n p) (hq:Ord n q) (hs:SameP E n p q) (hc:jdz E n (rkF p)):jdz E n (rkF q):=by
 obtain⟨i,i0,i1,hc⟩:=hc
 have si:=h.sc_lt i0 i1
 have at1:=h.at_sc i0 i1
 have u1:=h.up i.toNat (by omega);have u2:=h.down i.toNat (by omega)
 have u3:=h.up (sc n i).toNat (by omega);have u4:=h.down (sc n i).toNat (by omega)
 have key:∀x:Int,0≤x→x<n→ovl E i.toNat x.toNat=true→ovl E (sc n i).toNat x.toNat=true→(jk8 n (rkF p) i x↔jk8 n (rkF q) i x):=fun x x0 x1 o1 o2=>by
  have t1:=hs.all hp hq i0 i1 x0 x1 o1
  have t2:=hs.all hp hq x0 x1 i0 i1 (by rw[jjk];exact o1)
  have t3:=hs.all hp hq si.1 si.2.1 x0 x1 o2
  have t4:=hs.all hp hq x0 x1 si.1 si.2.1 (by rw[jjk];exact o2)
  unfold jk8
  omega
 refine⟨i,i0,i1,?_⟩
 rcases hc with⟨j,j0,j1,e1,e2,e3⟩ | ⟨j,j0,j1,e1,e2,e3,e5⟩
 ·refine .inl ⟨j,j0,j1,e1,e2,(key j j0 j1 ?_ ?_).1 e3⟩<;>
  ·rw[j83]
   unfold frm too at *
   omega
 ·have sj:=h.sc_lt j0 j1
  have at2:=h.at_sc j0 j1
  have v1:=h.up j.toNat (by omega);have v2:=h.down j.toNat (by omega)
  have v3:=h.up (sc n j).toNat (by omega);have v4:=h.down (sc n j).toNat (by omega)
  refine .inr ⟨j,j0,j1,e1,e2,e3,?_⟩
  rw[←key j j0 j1,←key (sc n j) sj.1 sj.2.1]
  ·exact e5
  all_goals
   rw[j83]
   unfold frm too
   omega
theorem j8u {E K:List Int} {n:Nat} (h:REnds E n) {p q:List Int} (hp:Ord n p) (hq:Ord n q) (hs:SameP E n p q) (hw:jny K n (rkF p)):jny K n (rkF q):=by
 obtain⟨i,i0,i1,e1,e3⟩:=hw
 have si:=h.sc_lt i0 i1
 have at1:=h.at_sc i0 i1
 have u1:=h.up i.toNat (by omega);have u2:=h.down i.toNat (by omega)
 have u3:=h.up (sc n i).toNat (by omega);have u4:=h.down (sc n i).toNat (by omega)
 have ho:ovl E i.toNat (sc n i).toNat=true:=by
  rw[j83]
  unfold frm too
  omega
 have t1:=hs.all hp hq i0 i1 si.1 si.2.1 ho
 have t2:=hs.all hp hq si.1 si.2.1 i0 i1 (by rw[jjk];exact ho)
 refine⟨i,i0,i1,e1,fun e=>e3 (e.trans ?_)⟩
 unfold je1
 by_cases c:i%2=0
 ·rw[if_pos c,if_pos c]
  by_cases d:rkF p i<rkF p (sc n i)
  ·rw[if_pos d,if_pos (t1.1 d)]
  ·rw[if_neg d,if_neg (fun x=>d (t1.2 x))]
 ·rw[if_neg c,if_neg c]
  by_cases d:rkF p (sc n i)<rkF p i
  ·rw[if_pos d,if_pos (t2.1 d)]
  ·rw[if_neg d,if_neg (fun x=>d (t2.2 x))]
theorem SameP.sy {E:List Int} {n:Nat} {a b:List Int} (x:SameP E n a b):SameP E n b a:=fun i k u v w o=>(x i k u v w o).symm
theorem SameP.tr {E:List Int} {n:Nat} {a b c:List Int} (x:SameP E n a b) (y:SameP E n b c):SameP E n a c:=fun i k u v w o=>(x i k u v w o).trans (y i k u v w o)
structure VPile (s:List Int×List Int) (p:List Int):Prop where
 ord:Ord s.1.length p
 nc:¬jdz (ja9 s.1) s.1.length (rkF p)
 nw:¬jny s.2 s.1.length (rkF p)
theorem VPile.same {s:List Int×List Int} (h:RValid s) {p q:List Int} (hp:VPile s p) (hq:Ord s.1.length q) (hs:SameP (ja9 s.1) s.1.length p q):VPile s q:=
 ⟨hq,fun c=>hp.nc (j8v h.ends hq hp.ord hs.sy c),fun c=>hp.nw (j8u h.ends hq hp.ord hs.sy c)⟩
structure Way (s:List Int×List Int) (l:List Int):Prop where
 vp:VPile s l
 gr:Greedy (ja9 s.1) s.1.length l l
theorem kfq {s:List Int×List Int} (h:RValid s) {q l:List Int} (hq:VPile s q) (hl:l.length=s.1.length) (hg:Greedy (ja9 s.1) s.1.length q l):Way s l:=by
 have ho:=hg.ord hl
 have hs:=hg.same hq.ord hl
 obtain⟨m,_,m1,m2⟩:=jby h ho
 have e:=hg.unique m2 hq.ord ho hl m1 hs
 exact⟨hq.same h ho hs,by rw[e] at m2 ⊢;exact m2⟩
abbrev T8:Ty:=.arr 8 (.int .i64)
theorem kbu:∀l m:List Int,leq (Ty.eqb (.int .i64)) l m=true↔l=m
 | [],[]=>by simp[leq]
 | [],_::_=>by simp[leq]
 | _::_,[]=>by simp[leq]
 | a::l,b::m=>by
   have:=kbu l m
   simp only[leq,Ty.eqb]
   by_cases e:a=b
   ·simp only[e,decide_true,cond_true]
    exact this.trans (by simp)
   ·simp only[e,decide_false,cond_false]
    simp[e]
theorem ke5 {x y:List Int}:T8.eqb x y=true↔x=y:=kbu x y
def kht (l:List Int):List Int:=List.take 0 [0,0,0,0,0,0,0,0]++(l++List.drop (0+l.length) [0,0,0,0,0,0,0,0])
theorem keo {l m:List Int} (h:l.length=m.length) (e:kht l=kht m):l=m:=by
 unfold kht at e
 rw[List.append_cancel_left_eq] at e
 exact(List.append_inj e h).1
theorem j66 {x y:List Int}:∀ {M:List (List Int×Bool)},jm6 T8 .bool x (jwc T8 .bool y true M)=if x=y then some true else jm6 T8 .bool x M
 | []=>by
   show(bif T8.eqb x y then some true else none)=_
   by_cases e:x=y
   ·rw[if_pos e,ke5.2 e];rfl
   ·rw[if_neg e,Bool.eq_false_iff.2 (fun c=>e (ke5.1 c))];rfl
 | a::M=>by
   show jm6 T8 .bool x (bif T8.eqb y a.1 then(y,true)::M else a::jwc T8 .bool y true M)=if x=y then some true else(bif T8.eqb x a.1 then some a.2 else jm6 T8 .bool x M)
   have ih:=j66 (x:=x) (y:=y) (M:=M)
   by_cases e1:y=a.1
   ·rw[ke5.2 e1,cond_true]
    show(bif T8.eqb x y then some true else jm6 T8 .bool x M)=_
    by_cases e:x=y
    ·rw[if_pos e,ke5.2 e];rfl
    ·rw[if_neg e,Bool.eq_false_iff.2 (fun c=>e (ke5.1 c)),←e1,Bool.eq_false_iff.2 (fun c=>e (ke5.1 c))];rfl
   ·rw[Bool.eq_false_iff.2 (fun c=>e1 (ke5.1 c)),cond_false]
    show(bif T8.eqb x a.1 then some a.2 else jm6 T8 .bool x (jwc T8 .bool y true M))=_
    rw[ih]
    by_cases e2:x=a.1
    ·rw[ke5.2 e2,cond_true,cond_true,if_neg (fun c=>e1 (c.symm.trans e2))]
    ·rw[Bool.eq_false_iff.2 (fun c=>e2 (ke5.1 c)),cond_false,cond_false]
theorem jkq {α:Type}:∀ {l p:List α},l.Nodup→(∀x∈l,x∈p)→l.length≤p.length
 | [],p,_,_=>Nat.zero_le _
 | a::l,p,hn,h=>by
   obtain⟨h1,h2⟩:=List.nodup_cons.1 hn
   obtain⟨A,B,rfl⟩:=List.append_of_mem (h a List.mem_cons_self)
   have:=jkq (l:=l) (p:=A++B) h2 fun x hx=>by
    have:=h x (List.mem_cons_of_mem _ hx)
    simp only[List.mem_append,List.mem_cons] at this ⊢
    rcases this with g | g | g
    ·exact .inl g
    ·subst g;exact absurd hx h1
    ·exact .inr g
   rw[List.length_append] at this
   rw[List.length_cons,List.length_append,List.length_cons]
   omega
theorem keg {n:Nat} (h:n≤8):(jrj n).length≤40320:=by
 have h5:∀m,m≤6→(jrj m).length≤720:=fun m hm=>jz0 hm
 have h7:∀m,m≤7→(jrj m).length≤5040:=fun m hm=>by
  rcases Nat.lt_or_ge m 7 with g | g
  ·have:=h5 m (by omega);omega
  ·obtain⟨k,rfl⟩:∃k,m=k+1:=⟨m-1,by omega⟩
   have e:=jjl k
   have:=Nat.mul_le_mul (show k+1≤7 by omega) (h5 k (by omega))
   omega
 rcases Nat.lt_or_ge n 8 with g | g
 ·have:=h7 n (by omega);omega
 ·obtain⟨k,rfl⟩:∃k,n=k+1:=⟨n-1,by omega⟩
  have e:=jjl k
  have:=Nat.mul_le_mul (show k+1≤8 by omega) (h7 k (by omega))
  omega
structure Fnd (s:List Int×List Int) (M:List (List Int×Bool)) (O:List (List Int)):Prop where
 nd:O.Nodup
 way:∀l∈O,Way s l
 key:∀l:List Int,l.length=s.1.length→((jm6 T8 .bool (kht l) M).getD false=true↔l∈O)
theorem Fnd.len {s:List Int×List Int} {M:List (List Int×Bool)} {O:List (List Int)} (h:Fnd s M O) (h8:s.1.length≤8):O.length≤40320:=
 Nat.le_trans (jkq h.nd fun l hl=>juv (h.way l hl).vp.ord) (keg h8)
theorem Fnd.snoc {s:List Int×List Int} {M:List (List Int×Bool)} {O:List (List Int)} {l:List Int} (h:Fnd s M O) (hl:Way s l) (hn:l∉O):Fnd s (jwc T8 .bool (kht l) true M) (O++[l]):=by
 refine⟨?_,fun m hm=>?_,fun m hm=>?_⟩
 ·rw[List.nodup_append]
  exact⟨h.nd,by simp,fun a ha b hb e=>hn (by simp at hb;rw[←hb,←e];exact ha)⟩
 ·rcases List.mem_append.1 hm with g | g
  ·exact h.way m g
  ·simp at g;subst g;exact hl
 ·rw[j66,List.mem_append,List.mem_singleton]
  by_cases e:m=l
  ·subst e;simp
  ·rw[if_neg fun c=>e (keo (by rw[hm,hl.vp.ord.len]) c),h.key m hm]
   simp[e]
def Got (s:List Int×List Int) (P:List Int→Prop) (O:List (List Int)):Prop:=∀q,VPile s q→P q→∀l:List Int,l.length=s.1.length→Greedy (ja9 s.1) s.1.length q l→l∈O
abbrev ko2 (s:List Int×List Int) (p:List Int) (M:List (List Int×Bool)) (O:List (List Int)):(List Int)×((((List Int)×(List Int))×(List Int))×(((List Int)×(List Int))×(Unit×(((List ((List Int)×Bool))×Unit)×(((List (List Int))×Unit)×Unit))))):=
 (p,((s,ja9 s.1),(s,((),((M,()),((O,()),()))))))
theorem kb6 {s:List Int×List Int} (h:RValid s) (h8:s.1.length≤8):∀(d k:Nat) (p:List Int) (M:List (List Int×Bool)) (O:List (List Int)),s.1.length<k+d→k≤s.1.length→Ord k p→Fnd s M O→
  Ret (jd4 fuel d (ko2 s p M O)) fun r=>Fnd s r.2.2.2.2.2.1.1 r.2.2.2.2.2.2.1.1∧(∀l∈O,l∈r.2.2.2.2.2.2.1.1)∧Got s (fun q=>jsv k q=p) r.2.2.2.2.2.2.1.1
 | 0,k,p,M,O,hd,hk,_,_=>by omega
 | d+1,k,p,M,O,hd,hk,hp,hF=>by
   have hpl:=hp.len
   unfold jd4 jin
   simp only[ko2]
   refine jax (jhw hp.in hp.nodup (by omega) (by omega)) fun r hr=>?_
   have hpart:∀q,Ord s.1.length q→jsv k q=p→PartOf s.1.length k (fun x=>r.getD x.toNat 0) (rkF q):=fun q hq e=>by
    have heq:∀x:Int,0≤x→x<k→r.getD x.toNat 0=rkF p x:=hr.rk.eqF hp
    refine⟨fun x x0 x1=>by rw[heq x x0 x1];exact jn9 _ _,fun x x0 x1=>?_,fun x y x0 x1 y0 y1=>?_⟩
    ·exact hr.no x.toNat (by omega) fun g=>by have:=hp.in _ g;omega
    ·rw[heq x x0 x1,heq y y0 y1,←e]
     exact kfw hq hk x0 x1 y0 y1
   refine jax (jl1 h hr.len) fun b hb=>jtl (fun e=>jaj ⟨hF,fun l hl=>hl,fun q hq hqp=>absurd ((hpart q hq.ord hqp).cross (hb.1 e)) hq.nc⟩) fun e=>?_
   refine jax (jpc h hr.len) fun b2 hb2=>jtl (fun e2=>jaj ⟨hF,fun l hl=>hl,fun q hq hqp=>absurd ((hpart q hq.ord hqp).wrong (hb2.1 e2)) hq.nw⟩) fun e2=>?_
   refine jab (fun hlt=>?_) fun hge=>?_
   ·refine jaa (jah (by omega) (by omega)) ?_
    refine jan (Inv:=fun x:Int×((List (List Int×Bool)×Unit)×(List (List Int)×Unit))=>0≤x.1∧x.1≤k+1∧Fnd s x.2.1.1 x.2.2.1∧(∀l∈O,l∈x.2.2.1)∧∀a:Nat,(a:Int)<x.1→Got s (fun q=>jsv (k+1) q=p.take a++[(k:Int)]++p.drop a) x.2.2.1) (m:=fun x=>((k:Int)+1-x.1).toNat) ?_ _ _ ⟨by simp,by simp only;omega,hF,fun l hl=>hl,fun a ha=>by simp only at ha;omega⟩ (by simp only[fuel];omega)
    rintro ⟨a,⟨M1,u1⟩,O1,u2⟩ rec ⟨i1,i2,i3,i4,i5⟩ ih
    simp only at i1 i2 i3 i4 i5 ⊢
    refine jab (fun hlt2=>?_) fun hge2=>?_
    ·have ins:jek fuel (p,(a,[((p.length:Nat):Int)]))=some (p.take a.toNat++[(k:Int)]++p.drop a.toNat):=by
      unfold jek kmi
      by_cases e0:k=0
      ·have:p=[]:=List.eq_nil_of_length_eq_zero (by omega)
       subst this
       have ea:a=0:=by omega
       subst ea
       rw[show k=0 from e0]
       rfl
      ·have ne:p.isEmpty=false:=by
        cases p with
        | nil=>simp at hpl;omega
        | cons x t=>rfl
       rw[ne,cond_false]
       unfold kby
       dsimp only
       rw[show(decide (0≤a)&&decide (a≤a)&&inb a (p.length+1)&&(1:Nat).ble p.length&&p.length.ble 1000000&&(1:Nat).ble [((p.length:Nat):Int)].length&&[((p.length:Nat):Int)].length.ble 1000&&(decide (a=a)||decide (a<a + [((p.length:Nat):Int)].length)))=true by
        rw[decide_eq_true i1,decide_eq_true (Int.le_refl a),jap i1 (by omega),Nat.ble_eq_true_of_le (show 1≤p.length by omega),Nat.ble_eq_true_of_le (show p.length≤1000000 by omega),decide_eq_true (rfl:a=a)];rfl]
       rw[cond_true,jxy,hpl]
     have clo:jas fuel p=some p:=by
      unfold jas
      rw[jb9 (ja7 (by omega))]
      rfl
     rw[clo,Option.bind_some,ins,Option.bind_some]
     have ho1:Ord (k+1) (p.take a.toNat++[(k:Int)]++p.drop a.toNat):=by
      unfold Ord
      rw[jr0]
      refine List.Perm.trans ?_ (List.Perm.append_right [(k:Int)] hp)
      rw[List.append_assoc]
      refine List.Perm.trans (List.Perm.append_left _ List.perm_append_comm) ?_
      rw[←List.append_assoc,List.take_append_drop]
     refine jax (kb6 h h8 d (k+1) _ M1 O1 (by omega) (by omega) ho1 i3) fun r2 ⟨g1,g2,g3⟩=>?_
     refine jaa (jah (by omega) (by omega)) (ih _ ⟨by simp only;omega,by simp only;omega,g1,fun l hl=>g2 l (i4 l hl),fun b hb=>?_⟩ (by simp only;omega))
     simp only at hb ⊢
     by_cases eb:(b:Int)=a
     ·rw[show b=a.toNat by omega];exact g3
     ·exact fun q hq hqp l hl hg=>g2 l (i5 b (by omega) q hq hqp l hl hg)
    ·refine jaj ⟨i3,i4,fun q hq hqp l hl hg=>?_⟩
     obtain⟨b,hb,e⟩:=j2e hq.ord (k:=k) (by omega)
     rw[hqp] at e
     exact i5 b (by omega) q hq e l hl hg
   ·have ek:k=s.1.length:=by omega
    subst ek
    have hfg:=hr.rk.eqF hp
    have hnn:∀x:Int,0≤x→x<s.1.length→0≤rkF p x:=fun x _ _=>jn9 p x
    rw[jwv hfg hnn] at hb
    rw[ju8 hfg hnn] at hb2
    have hv:VPile s p:=⟨hp,(fun c=>by rw[hb.2 c] at e;cases e),(fun c=>by rw[hb2.2 c] at e2;cases e2)⟩
    refine jax (jby h hp) fun l ⟨l1,l2⟩=>?_
    have hw:=kfq h hv l1 l2
    have h2:=h.two
    refine jaa (by simp[bnb]) (jaa (by rw[Nat.ble_eq_true_of_le (by omega),Nat.ble_eq_true_of_le (by omega)];rfl) ?_)
    have own:∀q,VPile s q→jsv s.1.length q=p→∀m:List Int,m.length=s.1.length→Greedy (ja9 s.1) s.1.length q m→m=l:=fun q hq hqp m hm hg=>by
     rw[j2f hq.ord] at hqp
     subst hqp
     exact hg.unique l2 hp hp hm l1 SameP.refl
    have kk:=hF.key l l1
    rw[show(List.take 0 [0,0,0,0,0,0,0,0]++(l++List.drop (0+l.length) [0,0,0,0,0,0,0,0]):List Int)=kht l from rfl]
    cases hg:(jm6 T8 .bool (kht l) M).getD false with
    | false=>
      have hn:l∉O:=fun c=>by rw[kk.2 c] at hg;cases hg
      have:=hF.len h8
      refine jaa (ja7 (by omega)) (jaj ⟨hF.snoc hw hn,fun m hm=>List.mem_append_left _ hm,fun q hq hqp m hm hgm=>?_⟩)
      rw[own q hq hqp m hm hgm]
      simp
    | true=>
      refine jaj ⟨hF,fun m hm=>hm,fun q hq hqp m hm hgm=>?_⟩
      rw[own q hq hqp m hm hgm]
      exact kk.1 hg
theorem jlc {s:List Int×List Int} (h:RValid s) (h8:s.1.length≤8):Ret (jh4 fuel s) fun L=>L.Pairwise (fun a b=>je2 a b<0)∧∀l,l∈L↔Way s l:=by
 unfold jh4
 rw[show jcv fuel (s.1,s.2)=_ from jio h,Option.bind_some]
 unfold jhv
 refine jax (kb6 h h8 12 0 [] [] [] (by omega) (by omega) (List.Perm.refl _) ⟨List.nodup_nil,fun l hl=>by simp at hl,fun l _=>by simp[jm6]⟩) fun r ⟨g1,g2,g3⟩=>?_
 have jbg:=g1.len h8
 have hw:=g1.way
 have hnd:=g1.nd
 generalize r.2.2.2.2.2.2.1.1=O at *
 have h2:=h.two
 have e:jb8 fuel (O,((),()))=some ((),(jpk O,((),()))):=by
  unfold jb8 kd0
  rw[show(O.length.ble 1000000&&O.all (fun l=>(1:Nat).ble l.length&&l.length.ble 1000000))=true by
   rw[Nat.ble_eq_true_of_le (by omega),Bool.true_and,List.all_eq_true]
   intro l hl
   have:=(hw l hl).vp.ord.len
   rw[Nat.ble_eq_true_of_le (by omega),Nat.ble_eq_true_of_le (by omega)];rfl]
  rfl
 rw[e,Option.bind_some]
 have pm:=jkc O
 refine jaj ⟨?_,fun l=>?_⟩
 ·have nd:(jpk O).Nodup:=pm.nodup_iff.2 hnd
  have:=(jmp O).and nd
  refine this.imp fun {a b} ⟨x,y⟩=>?_
  rcases Int.lt_or_le (je2 a b) 0 with g | g
  ·exact g
  ·exact absurd (jnp (by omega)) y
 ·simp only
  rw[pm.mem_iff]
  exact⟨hw l,fun hl=>g3 l hl.vp (j2d hl.vp.ord) l hl.vp.ord.len hl.gr⟩
end X
end Go.Vm
namespace Go.Vm
namespace X
open W Go.Proofs.St
theorem jvj:∀ {l m:List (List Int)},l.Pairwise (fun a b=>je2 a b<0)→m.Pairwise (fun a b=>je2 a b<0)→(∀x,x∈l↔x∈m)→l=m
 | [],[],_,_,_=>rfl
 | [],b::m,_,_,h=>by have:=(h b).2 List.mem_cons_self;simp at this
 | a::l,[],_,_,h=>by have:=(h a).1 List.mem_cons_self;simp at this
 | a::l,b::m,hl,hm,h=>by
   rw[List.pairwise_cons] at hl hm
   have e:a=b:=by
    rcases List.mem_cons.1 ((h a).1 List.mem_cons_self) with g | g
    ·exact g
    ·rcases List.mem_cons.1 ((h b).2 List.mem_cons_self) with g2 | g2
     ·exact g2.symm
     ·have h1:=hl.1 b g2
      have h2:=hm.1 a g
      rw[jha a b] at h2
      omega
   subst e
   congr 1
   refine jvj hl.2 hm.2 fun x=>⟨fun hx=>?_,fun hx=>?_⟩
   ·rcases List.mem_cons.1 ((h x).1 (List.mem_cons_of_mem _ hx)) with g | g
    ·have:=hl.1 x hx
     rw[g,jkz] at this
     omega
    ·exact g
   ·rcases List.mem_cons.1 ((h x).2 (List.mem_cons_of_mem _ hx)) with g | g
    ·have:=hm.1 x hx
     rw[g,jkz] at this
     omega
    ·exact g
theorem jr7 {β:Type} {L q:List Int} {no K:Option β} {Q:β→Prop} (hl:L.length=q.length) (hL:L.length≤10000) (h1:L≠q→Ret no Q) (h2:L=q→Ret K Q):
  Ret (jav (fun rec6 (x6:Int)=>bif(decide (x6< ((L.length:Nat):Int))) then(chk (inb x6 L.length) (chk (inb x6 q.length) (bif(decide ((L.getD x6.toNat 0)≠(q.getD x6.toNat 0))) then no else(chk (jak (x6+1)) (rec6 (x6+1)))))) else K) fuel 0) Q:=by
 refine jan (Inv:=fun i:Int=>0≤i∧i≤L.length∧∀k:Nat,(k:Int)<i→L.getD k 0=q.getD k 0) (m:=fun i=>((L.length:Int)-i).toNat) ?_ _ _ ⟨by simp,by simp,fun k hk=>by omega⟩ (by simp only[fuel];omega)
 rintro i rec ⟨j1,j2,j3⟩ ih
 refine jab (fun hlt=>?_) fun hge=>h2 (jr2 hl fun k hk=>j3 k (by omega))
 refine jaa (jap (by omega) (by omega)) (jaa (jap (by omega) (by omega)) (jab (fun g=>h1 fun e=>g (by rw[e])) fun g=>jaa (jah (by omega) (by omega)) (ih _ ⟨by omega,by omega,fun k hk=>?_⟩ (by omega))))
 by_cases e:(k:Int)=i
 ·rw[show i.toNat=k by omega] at g;exact Classical.not_not.1 g
 ·exact j3 k (by omega)
theorem jkf {s:List Int×List Int} (h:RValid s) (h8:s.1.length≤8):jce fuel s=some 0:=by
 unfold jce
 rw[show ja3 fuel (s.1,s.2)=some 0 from jdo h,Option.bind_some]
 rw[show decide ((0:Int)≠0)=false from rfl,cond_false,decide_eq_false (by omega),cond_false]
structure WaysL (s:List Int×List Int) (L:List (List Int)):Prop where
 srt:L.Pairwise fun a b=>je2 a b<0
 mem:∀l,l∈L↔Way s l
theorem jez {s:List Int×List Int} (h:RValid s) (h8:s.1.length≤8) {L:List (List Int)} (hL:WaysL s L):ja5 fuel s=some ((L.length:Int),0):=by
 apply Ret.eq
 unfold ja5
 rw[show jce fuel (s.1,s.2)=some 0 from jkf h h8,Option.bind_some]
 refine jab (fun g=>absurd rfl g) fun _=>?_
 refine jax (jlc h h8) fun M ⟨m1,m2⟩=>jaj ?_
 rw[jvj m1 hL.srt fun x=>(m2 x).trans (hL.mem x).symm]
theorem jpe {s:List Int×List Int} (h:RValid s) (h8:s.1.length≤8) {L:List (List Int)} (hL:WaysL s L):jcs fuel s=some (if L=[] then([],7) else(L.getD 0 [],0)):=by
 apply Ret.eq
 unfold jcs
 rw[show jce fuel (s.1,s.2)=some 0 from jkf h h8,Option.bind_some]
 refine jab (fun g=>absurd rfl g) fun _=>?_
 refine jax (jlc h h8) fun M ⟨m1,m2⟩=>?_
 rw[jvj m1 hL.srt fun x=>(m2 x).trans (hL.mem x).symm]
 refine jab (fun g=>jaj ?_) fun g=>?_
 ·rw[if_pos (List.eq_nil_of_length_eq_zero (by omega))]
 ·refine jaa (jap (by omega) (by omega)) (jaj ?_)
  rw[if_neg fun e=>g (by rw[e];rfl)]
theorem jso {s:List Int×List Int} (h:RValid s) (h8:s.1.length≤8):∃L,WaysL s L:=by
 obtain⟨L,_,a,b⟩:=jlc h h8
 exact⟨L,a,b⟩
theorem jul {s:List Int×List Int} {q:List Int} {e:Int} (hq:Ord s.1.length q) (h:Ans s q e):e=0↔VPile s q:=by
 constructor
 ·intro he
  refine⟨hq,fun c=>?_,fun w=>?_⟩
  ·have:=h.1 c;omega
  ·by_cases c:jdz (ja9 s.1) s.1.length (rkF q)
   ·have:=h.1 c;omega
   ·have:=h.2.1 c w;omega
 ·rintro ⟨_,a,b⟩
  exact h.2.2 a b
open Classical in
set_option maxRecDepth 100000 in
set_option maxHeartbeats 1000000 in
theorem jnd {a0 a1:List Int} {l:Int} (h0:bytes a0) (h1:bytes a1) (hl:0≤l∧l≤255):jdk fuel ((a0,a1),(l,()))=some true:=by
 apply Ret.eq
 unfold jdk
 refine jaa (by simp[bnb];omega) ?_
 have hb0:bytes ((a0.drop 0).take (min ((a0.length:Nat):Int) 5).toNat):=fun x hx=>h0 x (by rw[List.drop_zero] at hx;exact List.mem_of_mem_take hx)
 refine jax (jf5 (a:=(((a0.drop 0).take (min ((a0.length:Nat):Int) 5).toNat,a1),(l,()))) hb0 h1 hl) fun s ⟨h,h8,jbg⟩=>?_
 have hn6:s.1.length≤6:=by
  simp only[List.length_take] at jbg
  omega
 rw[jm9 hn6,Option.bind_some]
 have hoLe:=jz0 hn6
 have hmem:∀q:List Int,q∈jrj s.1.length↔Ord s.1.length q:=fun q=>⟨jri,juv⟩
 have hsrt:=jpt s.1.length
 obtain⟨W,hW⟩:=jso h h8
 generalize jrj s.1.length=R at hoLe hmem hsrt ⊢
 have hWR:R.filter (fun q=>decide (Way s q))=W:=jvj (hsrt.filter _) hW.srt fun x=>by
  rw[List.mem_filter,hW.mem,decide_eq_true_iff]
  exact⟨fun g=>g.2,fun g=>⟨(hmem x).2 g.vp.ord,g⟩⟩
 refine jan (Inv:=fun x:Int×(List Int×(Int×(List Int×List Int)))=>0≤x.2.2.1∧x.2.2.1≤R.length∧x.2.2.2=s∧x.1=((R.take x.2.2.1.toNat).filter fun q=>decide (Way s q)).length∧(x.1≠0→x.2.1=((R.take x.2.2.1.toNat).filter fun q=>decide (Way s q)).getD 0 [])) (m:=fun x=>((R.length:Int)-x.2.2.1).toNat) ?_ _ _ ⟨by simp,by simp,rfl,by simp,by simp⟩ (by simp only[fuel];omega)
 rintro ⟨many,want,i,s1,s2⟩ rec ⟨i1,i2,i3,i4,i5⟩ ih
 simp only at i1 i2 i3 i4 i5 ⊢
 subst i3
 refine jab (fun hlt=>?_) fun hge=>?_
 ·have hin:=jap (i:=i) (n:=R.length) (by omega) (by omega)
  have hqm:R.getD i.toNat []∈R:=by rw[List.getD,List.getElem?_eq_getElem (by omega)];exact List.getElem_mem _
  have hq:=(hmem _).1 hqm
  have et:=jyb (L:=R) (i:=i.toNat) (by omega)
  rw[show i.toNat+1=(i+1).toNat by omega] at et
  generalize hqe:R.getD i.toNat []=q at hqm hq et ⊢
  have hql:=hq.len
  have hml:((R.take i.toNat).filter fun q=>decide (Way (s1,s2) q)).length≤720:=Nat.le_trans (List.length_filter_le _ _) (by rw[List.length_take];omega)
  have skip:¬Way (s1,s2) q→Ret (chk (jak (i+1)) (rec (many,(want,(i+1,(s1,s2)))))) (fun x=>x=true):=fun hn=>by
   have e:(R.take (i+1).toNat).filter (fun q=>decide (Way (s1,s2) q))=(R.take i.toNat).filter fun q=>decide (Way (s1,s2) q):=by
    rw[et,List.filter_append,List.filter_cons,if_neg (by simp[hn]),List.filter_nil,List.append_nil]
   refine jaa (jah (by omega) (by omega)) (ih _ ⟨by simp only;omega,by simp only;omega,rfl,?_,?_⟩ (by simp only;omega))
   ·simp only;rw[e];exact i4
   ·simp only;rw[e];exact i5
  refine jaa hin (jax (jj3 h hq) fun e he=>?_)
  have hez:=jul hq he
  refine jab (fun g=>skip fun w=>g (hez.2 w.vp)) fun g=>?_
  have hv:=hez.1 (Classical.not_not.1 g)
  refine jaa hin (jax (jpd h hq) fun L ⟨L0,L1,L2⟩=>?_)
  have hwq:L.1=q↔Way (s1,s2) q:=by
   constructor
   ·intro e
    rw[e] at L2
    exact⟨hv,L2⟩
   ·intro w
    exact L2.unique w.gr hq hq L1 hql SameP.refl
  refine jab (fun g=>absurd L0 g) fun _=>jab (fun g=>absurd rfl g) fun _=>jaa hin ?_
  refine jab (fun g=>absurd (by omega) g) fun _=>jab (fun g=>absurd rfl g) fun _=>?_
  refine jr7 (by omega) (by omega) (fun g=>skip fun w=>g (hwq.2 w)) fun g=>?_
  have hw:=hwq.1 g
  have e:(R.take (i+1).toNat).filter (fun q=>decide (Way (s1,s2) q))=((R.take i.toNat).filter fun q=>decide (Way (s1,s2) q))++[q]:=by
   rw[et,List.filter_append,List.filter_cons,if_pos (by simp[hw]),List.filter_nil]
  refine jab (fun g0=>?_) fun g0=>?_
  ·refine jaa hin (jaa (jah (by omega) (by omega)) (jaa (jah (by omega) (by omega)) (ih _ ⟨by simp only;omega,by simp only;omega,rfl,?_,fun _=>?_⟩ (by simp only;omega))))
   ·simp only;rw[e,List.length_append,i4];rfl
   ·simp only
    rw[e,List.eq_nil_of_length_eq_zero (l:=(R.take i.toNat).filter fun q=>decide (Way (s1,s2) q)) (by omega)]
    rfl
  ·refine jaa (jah (by omega) (by omega)) (jaa (jah (by omega) (by omega)) (ih _ ⟨by simp only;omega,by simp only;omega,rfl,?_,fun _=>?_⟩ (by simp only;omega)))
   ·simp only;rw[e,List.length_append,i4];rfl
   ·simp only
    rw[e,i5 g0,List.getD,List.getD,List.getElem?_append_left (by omega)]
 ·rw[List.take_of_length_le (by omega),hWR] at i4 i5
  rw[show ja5 fuel (s1,s2)=_ from jez h h8 hW,Option.bind_some,show jcs fuel (s1,s2)=_ from jpe h h8 hW,Option.bind_some]
  refine jab (fun g=>absurd rfl g) fun _=>jab (fun g=>absurd i4.symm g) fun _=>?_
  by_cases eW:W=[]
  ·have m0:many=0:=by rw[i4,eW];rfl
   rw[if_pos eW,m0]
   refine jab (fun _=>?_) fun g=>absurd rfl g
   refine jab (fun _=>?_) fun g=>absurd rfl g
   refine jab (fun _=>?_) fun g=>absurd rfl g
   rw[js5]
   exact jaj rfl
  ·have m0:many≠0:=fun g=>eW (List.eq_nil_of_length_eq_zero (by omega))
   rw[if_neg eW]
   refine jab (fun g=>absurd g m0) fun _=>?_
   refine jab (fun _=>?_) fun g=>absurd rfl g
   have hwl:(W.getD 0 []).length≤10000:=by
    have hm:W.getD 0 []∈W:=by
     cases W with
     | nil=>exact absurd rfl eW
     | cons a t=>exact List.mem_cons_self
    have:=((hW.mem _).1 hm).vp.ord.len
    omega
   rw[i5 m0]
   refine jab (fun g=>absurd rfl g) fun _=>jab (fun g=>absurd rfl g) fun _=>?_
   refine jr7 rfl hwl (fun g=>absurd rfl g) fun _=>?_
   rw[js5]
   exact jaj rfl
end X
end Go.Vm
namespace Go.Vm
namespace X
open W Go.Proofs.St
theorem kbt {β:Type} {L:List Int} {K:Option β} {Q:β→Prop} (hl:L.length≤10000) (no:Int→Option β) (hK:Ret K Q):
  Ret (jav (fun rec10 (x10:Int)=>bif(decide (x10< ((L.length:Nat):Int))) then(chk (inb x10 L.length) (chk (inb x10 L.length) (bif(decide ((L.getD x10.toNat 0)≠(L.getD x10.toNat 0))) then(no x10) else(chk (jak (x10+1)) (rec10 (x10+1)))))) else K) fuel 0) Q:=by
 refine jan (Inv:=fun i:Int=>0≤i∧i≤L.length) (m:=fun i=>((L.length:Int)-i).toNat) ?_ _ _ ⟨by simp,by simp⟩ (by simp only[fuel];omega)
 rintro i rec ⟨j1,j2⟩ ih
 refine jab (fun hlt=>?_) fun hge=>hK
 exact jaa (jap (by omega) (by omega)) (jaa (jap (by omega) (by omega)) (jab (fun g=>absurd rfl g) fun _=>jaa (jah (by omega) (by omega)) (ih _ ⟨by omega,by omega⟩ (by omega))))
set_option maxRecDepth 100000 in
set_option maxHeartbeats 1000000 in
theorem jnb {a0 a1 y:List Int} {l:Int} (h0:bytes a0) (h1:bytes a1) (hl:0≤l∧l≤255) (hy:bytes y):jdj fuel (((a0,a1),(l,())),y)=some true:=by
 apply Ret.eq
 unfold jdj
 refine jaa (by simp[bnb];omega) ?_
 have hb0:bytes ((a0.drop 0).take (min ((a0.length:Nat):Int) 5).toNat):=fun x hx=>h0 x (by rw[List.drop_zero] at hx;exact List.mem_of_mem_take hx)
 refine jax (jf5 (a:=(((a0.drop 0).take (min ((a0.length:Nat):Int) 5).toNat,a1),(l,()))) hb0 h1 hl) fun s ⟨h,h8,jbg⟩=>?_
 have hn6:s.1.length≤6:=by
  simp only[List.length_take] at jbg
  omega
 refine jax (j58 hy (n:=s.1.length) (by omega)) fun p hp=>?_
 rw[show jdp fuel (s.1,s.2)=some (ja9 s.1) from jlo h,Option.bind_some]
 refine jax (jpd h hp) fun L ⟨hL0,hLl,hLg⟩=>?_
 have hpl:=hp.len
 have hel:=joi s.1
 refine jab (fun g=>absurd hL0 g) fun _=>?_
 rw[jm9 hn6,Option.bind_some]
 have hoLe:=jz0 hn6
 have hLord:=hLg.ord hLl
 have hLsame:=hLg.same hp hLl
 have hmem:∀q:List Int,q∈jrj s.1.length↔Ord s.1.length q:=fun q=>⟨jri,juv⟩
 have hsrt:=jpt s.1.length
 generalize jrj s.1.length=R at hoLe hmem hsrt ⊢
 have bd:∀i:Nat,i≤s.1.length→ -10000≤(ja9 s.1).getD i 0∧(ja9 s.1).getD i 0≤10000:=fun i hi=>by
  rw[jea hi]
  have:=j5v (L:=s.1) h.lens i hi
  omega
 refine jan (Inv:=fun x:Int=>0≤x∧x≤R.length∧∀k:Nat,(k:Int)<x→¬SameP (ja9 s.1) s.1.length p (R.getD k [])) (m:=fun x=>((R.length:Int)-x).toNat) ?_ _ _ ⟨by simp,by simp,fun k hk=>by omega⟩ (by simp only[fuel];omega)
 rintro i rec ⟨i1,i2,i3⟩ ih
 refine jab (fun hlt=>?_) fun hge=>?_
 ·have hin:=jap (i:=i) (n:=R.length) (by omega) (by omega)
  have hqm:R.getD i.toNat []∈R:=by rw[List.getD,List.getElem?_eq_getElem (by omega)];exact List.getElem_mem _
  have hq:=(hmem _).1 hqm
  have hbefore:∀k:Nat,k<i.toNat→je2 (R.getD k []) (R.getD i.toNat [])<0:=fun k hk=>by
   rw[List.getD,List.getElem?_eq_getElem (by omega),List.getD,List.getElem?_eq_getElem (by omega)]
   exact List.pairwise_iff_getElem.1 hsrt k i.toNat (by omega) (by omega) hk
  generalize hqe:R.getD i.toNat []=q at hqm hq hbefore ⊢
  have hql:=hq.len
  refine jaa (by simp;omega) ?_
  refine jan (Inv:=fun x:Int×(List Int×Option Nat)=>0≤x.1∧x.1≤s.1.length∧x.2.1.length=s.1.length∧∀k:Nat,k<x.1.toNat→x.2.1.getD (q.getD k 0).toNat 0=k) (m:=fun x=>((s.1.length:Int)-x.1).toNat) ?_ _ _ ⟨by simp,by simp,by simp,by simp⟩ (by simp only[fuel];omega)
  rintro ⟨k,at_,cp⟩ rec2 ⟨k1,k2,k3,k4⟩ ih2
  simp only at k1 k2 k3 k4 ⊢
  refine jab (fun hlt2=>?_) fun hge2=>?_
  ·have hx:=hq.in _ (jau (L:=q) (i:=k.toNat) (by omega))
   have:=j6p hq.nodup hq.in (by omega) (by omega) k4
   rw[show((k.toNat:Nat):Int)=k by omega,show k.toNat+1=(k+1).toNat by omega] at this
   exact jaa hin (jaa (jap (by omega) (by omega)) (jaa (jap (by omega) (by omega)) (jaa (jah (by omega) (by omega)) (ih2 _ ⟨by simp only;omega,by simp only;omega,by simp only[List.length_set];exact k3,this⟩ (by simp only;omega)))))
  ·have hrk:Rk q at_:=fun j hj=>k4 j (by omega)
   have hfg:=hrk.eqF hq
   refine jan (Inv:=fun x:Bool×Int=>0≤x.2∧x.2≤s.1.length∧(x.1=true↔∀a b:Nat,(a:Int)<x.2→a<b→b<s.1.length→ovl (ja9 s.1) (p.getD a 0).toNat (p.getD b 0).toNat=true→rkF q (p.getD a 0)<rkF q (p.getD b 0))) (m:=fun x=>((s.1.length:Int)-x.2).toNat) ?_ _ _ ⟨by simp,by simp,by simp only[true_iff];intro a b ha;omega⟩ (by simp only[fuel];omega)
   rintro ⟨c,a⟩ rec3 ⟨a1,a2,a3⟩ ih3
   simp only at a1 a2 a3 ⊢
   refine jab (fun hlt3=>?_) fun hge3=>?_
   ·refine jaa (jah (by omega) (by omega)) ?_
    refine jan (Inv:=fun x:Bool×Int=>a<x.2∧x.2≤s.1.length∧(x.1=true↔c=true∧∀b:Nat,a<b→(b:Int)<x.2→ovl (ja9 s.1) (p.getD a.toNat 0).toNat (p.getD b 0).toNat=true→rkF q (p.getD a.toNat 0)<rkF q (p.getD b 0))) (m:=fun x=>((s.1.length:Int)-x.2).toNat) ?_ _ _ ⟨by simp only;omega,by simp only;omega,⟨fun g=>⟨g,fun b u v=>by omega⟩,fun g=>g.1⟩⟩ (by simp only[fuel];omega)
    rintro ⟨d,b⟩ rec4 ⟨b1,b2,b3⟩ ih4
    simp only at b1 b2 b3 ⊢
    refine jab (fun hlt4=>?_) fun hge4=>?_
    ·have m1:=hp.in _ (jau (L:=p) (i:=a.toNat) (by omega))
     have m2:=hp.in _ (jau (L:=p) (i:=b.toNat) (by omega))
     have nxt:∀e:Bool,(e=true↔d=true∧(ovl (ja9 s.1) (p.getD a.toNat 0).toNat (p.getD b.toNat 0).toNat=true→rkF q (p.getD a.toNat 0)<rkF q (p.getD b.toNat 0)))→Ret (chk (jak (b+1)) (rec4 (e,b+1))) (fun x=>x=true):=fun e he=>by
      refine jaa (jah (by omega) (by omega)) (ih4 _ ⟨by simp only;omega,by simp only;omega,?_⟩ (by simp only;omega))
      simp only
      rw[he,b3]
      constructor
      ·rintro ⟨⟨u,v⟩,w⟩
       refine⟨u,fun b' x y=>?_⟩
       by_cases e':(b':Int)=b
       ·rw[show b'=b.toNat by omega];exact w
       ·exact v b' x (by omega)
      ·rintro ⟨u,v⟩
       exact⟨⟨u,fun b' x y=>v b' x (by omega)⟩,v b.toNat (by omega) (by omega)⟩
     have f1:=hfg _ m1.1 m1.2
     have f2:=hfg _ m2.1 m2.2
     generalize p.getD a.toNat 0=u at m1 nxt f1 ⊢
     generalize p.getD b.toNat 0=v at m2 nxt f2 ⊢
     have eu:(u+1).toNat=u.toNat+1:=by omega
     have ev:(v+1).toNat=v.toNat+1:=by omega
     rw[eu,ev]
     have ia:=jap (i:=a) (n:=p.length) (by omega) (by omega)
     have ib:=jap (i:=b) (n:=p.length) (by omega) (by omega)
     have iu:=jap (i:=u) (n:=(ja9 s.1).length) (by omega) (by omega)
     have iu1:=jap (i:=u+1) (n:=(ja9 s.1).length) (by omega) (by omega)
     have iv:=jap (i:=v) (n:=(ja9 s.1).length) (by omega) (by omega)
     have iv1:=jap (i:=v+1) (n:=(ja9 s.1).length) (by omega) (by omega)
     have ju:=jap (i:=u) (n:=at_.length) (by omega) (by omega)
     have jv:=jap (i:=v) (n:=at_.length) (by omega) (by omega)
     have bu:=jah (n:=u+1) (by omega) (by omega)
     have bv:=jah (n:=v+1) (by omega) (by omega)
     simp only[ia,ib,iu,iu1,iv,iv1,ju,jv,bu,bv,jb9]
     refine jab (fun g=>?_) fun g=>nxt d ⟨fun x=>⟨x,fun o=>?_⟩,fun x=>x.1⟩
     ·refine jab (fun g2=>?_) fun g2=>nxt d ⟨fun x=>⟨x,fun o=>?_⟩,fun x=>x.1⟩
      ·cases d with
       | false=>exact nxt false (by simp)
       | true=>
         refine nxt _ ?_
         rw[f1,f2,decide_eq_true_iff]
         refine⟨fun x=>⟨rfl,fun _=>x⟩,fun x=>x.2 ?_⟩
         simp only[ovl,frm,too,Bool.and_eq_true,decide_eq_true_eq]
         exact⟨decide_eq_true g,decide_eq_true g2⟩
      ·simp only[ovl,frm,too,Bool.and_eq_true,decide_eq_true_eq] at o
       exact absurd (of_decide_eq_true o.2) g2
     ·simp only[ovl,frm,too,Bool.and_eq_true,decide_eq_true_eq] at o
      exact absurd (of_decide_eq_true o.1) g
    ·refine jaa (jah (by omega) (by omega)) (ih3 _ ⟨by simp only;omega,by simp only;omega,?_⟩ (by simp only;omega))
     simp only
     rw[b3,a3]
     constructor
     ·rintro ⟨u,v⟩ a' b' x y z
      by_cases e':(a':Int)=a
      ·rw[show a'=a.toNat by omega]
       exact v b' (by omega) (by omega)
      ·exact u a' b' (by omega) y z
     ·intro u
      refine⟨fun a' b' x y z=>u a' b' (by omega) y z,fun b' x y=>?_⟩
      exact u a.toNat b' (by omega) (by omega) (by omega)
   ·have hsm:c=true↔SameP (ja9 s.1) s.1.length p q:=by
     rw[a3,←j4r hp hq]
     exact⟨fun u a' b' x y=>u a' b' (by omega) x y,fun u a' b' x y z=>u a' b' y z⟩
    cases c with
    | true=>
      have sm:=hsm.1 rfl
      have eL:L.1=q:=by
       refine jt8 (by omega) (fun lt=>?_) (hLg.first hp hLl hq sm)
       obtain⟨k,hk,e⟩:=List.mem_iff_getElem.1 ((hmem L.1).2 hLord)
       have ek:R.getD k []=L.1:=by rw[List.getD,List.getElem?_eq_getElem hk];exact e
       rcases Nat.lt_trichotomy k i.toNat with g | g | g
       ·exact i3 k (by omega) (by rw[ek];exact hLsame)
       ·rw[g,hqe] at ek
        rw[ek] at lt
        obtain⟨m,_,_,_,e⟩:=lt
        omega
       ·have hc:je2 q L.1<0:=by
         rw[←hqe,←ek,List.getD,List.getElem?_eq_getElem (by omega),List.getD,List.getElem?_eq_getElem (by omega)]
         exact List.pairwise_iff_getElem.1 hsrt i.toNat k (by omega) (by omega) g
        have l2:=j7v (by omega) hc
        obtain⟨m,_,_,_,e⟩:=lt.trans l2
        omega
      simp only[cond_true]
      refine jaa hin ?_
      rw[eL]
      refine jab (fun g=>absurd rfl g) fun _=>jab (fun g=>absurd rfl g) fun _=>?_
      refine kbt (by omega) (fun _=>some false) ?_
      rw[js5]
      exact jaj rfl
    | false=>
      refine jaa (jah (by omega) (by omega)) (ih _ ⟨by omega,by omega,fun k hk=>?_⟩ (by omega))
      by_cases e:(k:Int)=i
      ·rw[show k=i.toNat by omega,hqe]
       intro g
       have:=hsm.2 g
       cases this
      ·exact i3 k (by omega)
 ·obtain⟨k,hk,e⟩:=List.mem_iff_getElem.1 ((hmem L.1).2 hLord)
  have ek:R.getD k []=L.1:=by rw[List.getD,List.getElem?_eq_getElem hk];exact e
  exact absurd hLsame (by rw[←ek];exact i3 k (by omega))
end X
end Go.Vm
