/-
  Rings: piles that are the same, and the least of them: what is shared with the piles of strips.
  Rings: all orders in their order; Least; the law RingsLeast.
  Rings: Least.
  Rings: the law RingsLeast.
-/
import Derived.Test.YtofimkliemlojaaRC
import Derived.KernelRfl
import Derived.Test.YtofimkliemlojaaVmY4
set_option linter.unusedSimpArgs false
set_option linter.unusedVariables false
set_option linter.unusedSectionVars false
set_option linter.unnecessarySimpa false
namespace Go.Vm
namespace X
open W
theorem ext_getD {L M:List Int} (hl:L.length=M.length) (h:∀i:Nat,i<L.length→L.getD i 0=M.getD i 0):L=M:=by
 apply List.ext_getElem hl
 intro i h1 h2
 have:=h i h1
 simpa[List.getD,List.getElem?_eq_getElem h1,List.getElem?_eq_getElem h2] using this
def ovl (E:List Int) (i k:Nat):Bool:=decide (frm E i<too E k)&&decide (frm E k<too E i)
def SameP (E:List Int) (n:Nat) (p q:List Int):Prop:=∀i k:Int,0≤k→k<i→i<n→ovl E i.toNat k.toNat=true→(rkF p i<rkF p k↔rkF q i<rkF q k)
theorem ovl_symm {E:List Int} {i k:Nat}:ovl E i k=ovl E k i:=by unfold ovl;rw[Bool.and_comm]
theorem SameP.all {E:List Int} {n:Nat} {p q:List Int} (hp:Ord n p) (hq:Ord n q) (h:SameP E n p q) {i k:Int} (h1:0≤i) (h2:i<n) (h3:0≤k) (h4:k<n) (ho:ovl E i.toNat k.toNat=true):rkF p i<rkF p k↔rkF q i<rkF q k:=by
 rcases Int.lt_trichotomy i k with e | e | e
 ·have:=h k i h1 e h4 (by rw[ovl_symm];exact ho)
  have a:rkF p i≠rkF p k:=fun g=>by have:=rkF_inj (hp.memI h1 h2) (hp.memI h3 h4) g;omega
  have b:rkF q i≠rkF q k:=fun g=>by have:=rkF_inj (hq.memI h1 h2) (hq.memI h3 h4) g;omega
  omega
 ·subst e;omega
 ·exact h i k h3 e h2 ho
theorem SameP.refl {E:List Int} {n:Nat} {p:List Int}:SameP E n p p:=fun _ _ _ _ _ _=>Iff.rfl
theorem flat_len {n:Nat} {f:List Int→List (List Int)}:∀ {L:List (List Int)},(∀l∈L,(f l).length=n)→(L.flatMap f).length=L.length*n
 | [],_=>by simp
 | a::L,h=>by
   rw[List.flatMap_cons,List.length_append,flat_len fun l hl=>h l (List.mem_cons_of_mem _ hl),h a List.mem_cons_self,List.length_cons,Nat.add_mul]
   omega
def LexLt (a b:List Int):Prop:=∃m:Nat,m<a.length∧m<b.length∧(∀k:Nat,k<m→a.getD k 0=b.getD k 0)∧a.getD m 0<b.getD m 0
theorem LexLt.trans {a b c:List Int} (h:LexLt a b) (h':LexLt b c):LexLt a c:=by
 obtain⟨m,a1,a2,a3,a4⟩:=h
 obtain⟨k,b1,b2,b3,b4⟩:=h'
 rcases Nat.lt_trichotomy m k with e | e | e
 ·exact⟨m,a1,by omega,fun j hj=>(a3 j hj).trans (b3 j (by omega)),by rw[←b3 m e];exact a4⟩
 ·subst e;exact⟨m,a1,b2,fun j hj=>(a3 j hj).trans (b3 j hj),by omega⟩
 ·exact⟨k,by omega,b2,fun j hj=>(a3 j (by omega)).trans (b3 j hj),by rw[a3 k e];exact b4⟩
theorem eq_of_not_lt {a b:List Int} (hl:a.length=b.length) (h1:¬LexLt a b) (h2:¬LexLt b a):a=b:=by
 have key:∀m:Nat,m≤a.length→∀k:Nat,k<m→a.getD k 0=b.getD k 0:=by
  intro m
  induction m with
  | zero=>intro _ k hk;omega
  | succ m ih=>
    intro hm k hk
    by_cases e:k=m
    ·subst e
     rcases Int.lt_trichotomy (a.getD k 0) (b.getD k 0) with g | g | g
     ·exact absurd ⟨k,by omega,by omega,ih (by omega),g⟩ h1
     ·exact g
     ·exact absurd ⟨k,by omega,by omega,fun j hj=>(ih (by omega) j hj).symm,g⟩ h2
    ·exact ih (by omega) k (by omega)
 exact ext_getD hl fun i hi=>key a.length (Nat.le_refl _) i hi
def Free (E:List Int) (n:Nat) (p o:List Int) (i:Int):Prop:=i∉o∧∀k:Int,0≤k→k<n→k∈o∨rkF p i≤rkF p k∨ovl E i.toNat k.toNat=false
structure Greedy (E:List Int) (n:Nat) (p L:List Int):Prop where
 nd:L.Nodup
 rng:In n L
 free:∀m:Nat,m<L.length→Free E n p (L.take m) (L.getD m 0)
 least:∀m:Nat,m<L.length→∀j:Int,0≤j→j<n→Free E n p (L.take m) j→L.getD m 0≤j
theorem free_ex {E:List Int} {n:Nat} {p o:List Int} (hp:Ord n p) (ho:o.length<n):∃j:Int,0≤j∧j<n∧Free E n p o j:=by
 have hl:=hp.len
 have hex:∃i:Nat,i<p.length∧p.getD i 0∉o:=Classical.byContradiction fun hc=>by
  obtain⟨q,hq⟩:=perm_of_sub (l:=p) (p:=o) hp.nodup fun x hx=>Classical.byContradiction fun hx'=>by
   obtain⟨a,b,c⟩:=at_rkF hx
   exact hc ⟨_,a,by rw[b];exact hx'⟩
  have:=hq.length_eq
  rw[List.length_append] at this
  omega
 obtain⟨i,hi,hni,hmin⟩:∃i:Nat,i<p.length∧p.getD i 0∉o∧∀k:Nat,k<i→p.getD k 0∈o:=by
  obtain⟨i,h1,h2⟩:=hex
  induction i using Nat.strongRecOn with
  | _ i ih=>
    by_cases h:∀k:Nat,k<i→p.getD k 0∈o
    ·exact⟨i,h1,h2,h⟩
    ·have:∃k,k<i∧p.getD k 0∉o:=Classical.byContradiction fun hc=>h fun k hk=>Classical.byContradiction fun g=>hc ⟨k,hk,g⟩
     obtain⟨k,a,b⟩:=this
     exact ih k a (by omega) b
 have hx:=hp.in _ (getD_mem hi)
 refine⟨p.getD i 0,hx.1,hx.2,hni,fun k h0 h1=>?_⟩
 obtain⟨a,b,c⟩:=at_rkF (hp.memI h0 h1)
 rw[rkF_at hp.nodup hi]
 by_cases g:(rkF p k).toNat<i
 ·left;rw[←b];exact hmin _ g
 ·right;left;omega
theorem Greedy.ord {E:List Int} {n:Nat} {p L:List Int} (h:Greedy E n p L) (hl:L.length=n):Ord n L:=by
 obtain⟨q,hq⟩:=perm_of_sub (l:=L) (p:=idL n) h.nd fun x hx=>mem_idL.2 (h.rng x hx)
 have:=hq.length_eq
 rw[List.length_append,idL_len] at this
 have:q=[]:=List.eq_nil_of_length_eq_zero (by omega)
 subst this
 rw[List.append_nil] at hq
 exact hq.symm
theorem take_rk {L:List Int} {n:Nat} (h:Ord n L) {m:Nat} (hm:m≤L.length) {x:Int}:x∈L.take m↔x∈L∧rkF L x<m:=by
 constructor
 ·intro hx
  obtain⟨i,hi,e⟩:=List.mem_iff_getElem.1 hx
  rw[List.length_take] at hi
  have hx':=List.mem_of_mem_take hx
  refine⟨hx',?_⟩
  rw[List.getElem_take] at e
  have:=rkF_at h.nodup (i:=i) (by omega)
  rw[List.getD,List.getElem?_eq_getElem (by omega),Option.getD_some,e] at this
  omega
 ·rintro ⟨h1,h2⟩
  obtain⟨a,b,c⟩:=at_rkF h1
  refine List.mem_iff_getElem.2 ⟨(rkF L x).toNat,by rw[List.length_take];omega,?_⟩
  rw[List.getElem_take]
  rw[List.getD,List.getElem?_eq_getElem a,Option.getD_some] at b
  exact b
theorem Greedy.same {E:List Int} {n:Nat} {p L:List Int} (h:Greedy E n p L) (hp:Ord n p) (hl:L.length=n):SameP E n p L:=by
 have hL:=h.ord hl
 have key:∀i k:Int,0≤i→i<n→0≤k→k<n→ovl E i.toNat k.toNat=true→rkF p k<rkF p i→rkF L k<rkF L i:=fun i k a b c d ho hlt=>by
  obtain⟨q1,q2,q3⟩:=at_rkF (hL.memI a b)
  have hf:=h.free _ q1
  rw[q2] at hf
  rcases hf.2 k c d with g | g | g
  ·have:=(take_rk hL (by omega)).1 g
   omega
  ·omega
  ·rw[ho] at g;cases g
 intro i k h1 h2 h3 ho
 constructor
 ·intro hlt;exact key k i h1 (by omega) (by omega) h3 (by rw[ovl_symm];exact ho) hlt
 ·intro hlt
  have hne:rkF p i≠rkF p k:=fun e=>by
   have:=rkF_inj (hp.memI (by omega) h3) (hp.memI h1 (by omega)) e
   omega
  rcases Int.lt_or_le (rkF p i) (rkF p k) with g | g
  ·exact g
  ·have:=key i k (by omega) h3 h1 (by omega) ho (by omega)
   omega
theorem Greedy.first {E:List Int} {n:Nat} {p L q:List Int} (h:Greedy E n p L) (hp:Ord n p) (hl:L.length=n) (hq:Ord n q) (hs:SameP E n p q):¬LexLt q L:=by
 rintro ⟨m,a1,a2,a3,a4⟩
 have et:q.take m=L.take m:=ext_getD (by rw[List.length_take,List.length_take];omega) fun i hi=>by
  rw[List.length_take] at hi
  have:=a3 i (by omega)
  rw[List.getD,List.getD] at this ⊢
  rw[List.getElem?_take,List.getElem?_take,if_pos (by omega),if_pos (by omega)]
  exact this
 have hx:=hq.in _ (getD_mem (L:=q) (i:=m) a1)
 have hr:=rkF_at hq.nodup a1
 have:=h.least m a2 (q.getD m 0) hx.1 hx.2 ⟨fun g=>?_,fun k h0 h1=>?_⟩
 ·omega
 ·rw[←et] at g
  have:=(take_rk hq (by omega)).1 g
  omega
 ·cases ho:ovl E (q.getD m 0).toNat k.toNat with
  | false=>exact .inr (.inr rfl)
  | true=>
    have:=hs.all hp hq h0 h1 hx.1 hx.2 (by rw[ovl_symm];exact ho)
    by_cases g:rkF p k<rkF p (q.getD m 0)
    ·left
     rw[←et]
     exact(take_rk hq (by omega)).2 ⟨hq.memI h0 h1,by have:=this.1 g;omega⟩
    ·right;left;omega
theorem Greedy.snoc {E:List Int} {n:Nat} {p o:List Int} {i:Int} (h:Greedy E n p o) (h0:0≤i) (h1:i<n) (hf:Free E n p o i) (hm:∀j:Int,0≤j→j<n→Free E n p o j→i≤j):Greedy E n p (o++[i]):=by
 have tk:∀m:Nat,m< (o++[i]).length→(m<o.length∧(o++[i]).take m=o.take m∧(o++[i]).getD m 0=o.getD m 0)∨((o++[i]).take m=o∧(o++[i]).getD m 0=i):=fun m hm=>by
  rw[List.length_append,List.length_singleton] at hm
  by_cases e:m<o.length
  ·left
   refine⟨e,List.take_append_of_le_length (by omega),?_⟩
   rw[List.getD,List.getD,List.getElem?_append_left e]
  ·right
   have:m=o.length:=by omega
   subst this
   refine⟨by simp,by simp[List.getD]⟩
 refine⟨?_,?_,fun m hm'=>?_,fun m hm' j a b c=>?_⟩
 ·rw[List.nodup_append]
  refine⟨h.nd,by simp,fun a ha b hb e=>?_⟩
  simp at hb
  exact hf.1 (by rw[←hb,←e];exact ha)
 ·intro x hx
  rcases List.mem_append.1 hx with g | g
  ·exact h.rng x g
  ·simp at g;subst g;exact⟨h0,h1⟩
 ·rcases tk m hm' with⟨e1,e2,e3⟩ | ⟨e2,e3⟩
  ·rw[e2,e3];exact h.free m e1
  ·rw[e2,e3];exact hf
 ·rcases tk m hm' with⟨e1,e2,e3⟩ | ⟨e2,e3⟩
  ·rw[e2] at c;rw[e3];exact h.least m e1 j a b c
  ·rw[e2] at c;rw[e3];exact hm j a b c
end X
end Go.Vm
namespace Go.Vm
namespace X
open W Go.Proofs.St
def shf (f x:Int):Int:=if f≤x then x+1 else x
theorem shf_mono {f x y:Int}:x<y↔shf f x<shf f y:=by unfold shf;split<;>split<;>omega
def ordX:Nat→List (List Int)
 | 0=>[[]]
 | n+1=>(List.range (n+1)).flatMap fun(f:Nat)=>(ordX n).map fun l=>(f:Int)::l.map (shf f)
theorem ordX_ord:∀ {n:Nat} {l:List Int},l∈ordX n→Ord n l
 | 0,l,h=>by simp[ordX] at h;subst h;exact List.Perm.refl _
 | n+1,l,h=>by
   obtain⟨f,hf,h⟩:=List.mem_flatMap.1 h
   obtain⟨m,hm,rfl⟩:=List.mem_map.1 h
   have ho:=ordX_ord hm
   have hf:=List.mem_range.1 hf
   refine ord_of (by rw[List.length_cons,List.length_map,ho.len]) fun i hi=>?_
   rcases Nat.lt_trichotomy i f with e | e | e
   ·exact List.mem_cons_of_mem _ (List.mem_map.2 ⟨i,ho.mem (by omega),by unfold shf;rw[if_neg (by omega)]⟩)
   ·subst e;exact List.mem_cons_self
   ·exact List.mem_cons_of_mem _ (List.mem_map.2 ⟨(i-1:Nat),ho.mem (by omega),by unfold shf;rw[if_pos (by omega)];omega⟩)
theorem ordX_mem:∀ {n:Nat} {l:List Int},Ord n l→l∈ordX n
 | 0,l,h=>by
   rw[List.eq_nil_of_length_eq_zero h.len];simp[ordX]
 | n+1,[],h=>by have:=h.len;simp at this
 | n+1,f::t,h=>by
   have hf:=h.in f List.mem_cons_self
   have hl:=h.len
   have hnd:=h.nodup
   rw[List.nodup_cons] at hnd
   have ht:∀x∈t,x≠f:=fun x hx e=>hnd.1 (e▸hx)
   have ho:Ord n (t.map fun x=>if f<x then x-1 else x):=by
    refine ord_of (by rw[List.length_map];simpa using hl) fun i hi=>?_
    by_cases e:(i:Int)<f
    ·have:=h.mem (i:=i) (by omega)
     rcases List.mem_cons.1 this with g | g
     ·omega
     ·exact List.mem_map.2 ⟨i,g,by rw[if_neg (by omega)]⟩
    ·have:=h.mem (i:=i+1) (by omega)
     rcases List.mem_cons.1 this with g | g
     ·omega
     ·exact List.mem_map.2 ⟨(i+1:Nat),g,by rw[if_pos (by omega)];omega⟩
   refine List.mem_flatMap.2 ⟨f.toNat,List.mem_range.2 (by omega),List.mem_map.2 ⟨_,ordX_mem ho,?_⟩⟩
   rw[show((f.toNat:Nat):Int)=f by omega,List.map_map]
   congr 1
   conv=>rhs;rw[←List.map_id t]
   refine List.map_congr_left fun x hx=>?_
   have:=ht x hx
   simp only[Function.comp,id,shf]
   split<;>split<;>omega
theorem cmpI_map {g:Int→Int} (hg:∀x y:Int,x<y↔g x<g y):∀a b:List Int,cmpI (a.map g) (b.map g)=cmpI a b
 | [],[]=>rfl
 | [],_::_=>rfl
 | _::_,[]=>rfl
 | x::a,y::b=>by
   have h1:=hg x y
   have h2:=hg y x
   simp only[List.map_cons,cmpI]
   by_cases e:x<y
   ·rw[if_pos (h1.1 e),if_pos e]
   ·rw[if_neg (fun c=>e (h1.2 c)),if_neg e]
    by_cases e2:y<x
    ·rw[if_pos (h2.1 e2),if_pos e2]
    ·rw[if_neg (fun c=>e2 (h2.2 c)),if_neg e2];exact cmpI_map hg a b
theorem ordX_sorted:∀n,(ordX n).Pairwise fun a b=>cmpI a b<0
 | 0=>by simp[ordX]
 | n+1=>by
   rw[ordX,List.pairwise_flatMap]
   refine⟨fun f hf=>?_,?_⟩
   ·rw[List.pairwise_map]
    refine(ordX_sorted n).imp fun {a b} h=>?_
    simp only[cmpI,Int.lt_irrefl,if_false]
    rw[cmpI_map fun x y=>shf_mono]
    exact h
   ·refine List.pairwise_lt_range.imp fun {a b} hab x hx y hy=>?_
    obtain⟨l,_,rfl⟩:=List.mem_map.1 hx
    obtain⟨m,_,rfl⟩:=List.mem_map.1 hy
    simp only[cmpI]
    rw[if_pos (by omega)]
    omega
theorem cmpI_lex:∀ {a b:List Int},a.length=b.length→cmpI a b<0→LexLt a b
 | [],[],_,h=>by simp[cmpI] at h
 | [],_::_,h,_=>by simp at h
 | _::_,[],h,_=>by simp at h
 | x::a,y::b,hl,h=>by
   simp only[cmpI] at h
   by_cases e:x<y
   ·exact⟨0,by simp,by simp,fun k hk=>absurd hk (Nat.not_lt_zero _),e⟩
   ·rw[if_neg e] at h
    by_cases e2:y<x
    ·rw[if_pos e2] at h;omega
    ·rw[if_neg e2] at h
     obtain⟨m,h1,h2,h3,h4⟩:=cmpI_lex (by simpa using hl) h
     refine⟨m+1,by simpa using h1,by simpa using h2,fun k hk=>?_,h4⟩
     cases k with
     | zero=>show x=y;omega
     | succ k=>exact h3 k (by omega)
theorem ordX_len (n:Nat):(ordX (n+1)).length=(n+1)* (ordX n).length:=by
 have:∀k,((List.range k).flatMap fun(f:Nat)=>(ordX n).map fun l=>(f:Int)::l.map (shf f)).length=k* (ordX n).length:=by
  intro k
  induction k with
  | zero=>simp
  | succ k ih=>rw[List.range_succ,List.flatMap_append,List.length_append,ih,Nat.succ_mul];simp
 exact this (n+1)
theorem ordX_le {n:Nat} (h:n≤6):(ordX n).length≤720:=by
 have h0:(ordX 0).length=1:=rfl
 have h1:=ordX_len 0;have h2:=ordX_len 1;have h3:=ordX_len 2;have h4:=ordX_len 3;have h5:=ordX_len 4;have h6:=ordX_len 5
 simp only[h0,Nat.reduceAdd] at h1
 rw[h1] at h2;simp only[Nat.reduceAdd] at h2
 rw[h2] at h3;simp only[Nat.reduceAdd] at h3
 rw[h3] at h4;simp only[Nat.reduceAdd] at h4
 rw[h4] at h5;simp only[Nat.reduceAdd] at h5
 rw[h5] at h6;simp only[Nat.reduceAdd] at h6
 rcases(by omega:n=0∨n=1∨n=2∨n=3∨n=4∨n=5∨n=6) with rfl | rfl | rfl | rfl | rfl | rfl | rfl<;>omega
theorem take_snocL {L:List (List Int)} {i:Nat} (h:i<L.length):L.take (i+1)=L.take i++[L.getD i []]:=by
 rw[List.take_add_one,List.getD,List.getElem?_eq_getElem h];rfl
theorem orders_r_ok:∀d n:Nat,n<d→n≤6→law22_orders_r fuel d (n:Int)=some (ordX n)
 | 0,n,h,_=>absurd h (Nat.not_lt_zero _)
 | d+1,0,_,_=>rfl
 | d+1,n+1,hd,hn=>by
   apply Ret.eq
   unfold law22_orders_r law22_orders_f
   refine Ret_dec (fun g=>by omega) fun _=>?_
   refine Ret_chk (i64b_t (by omega) (by omega)) ?_
   rw[show((n+1:Nat):Int)-1=(n:Int) by omega,orders_r_ok d n (by omega) (by omega),Option.bind_some]
   have hle:=ordX_le (n:=n) (by omega)
   have hord:∀l∈ordX n,l.length=n:=fun l hl=>(ordX_ord hl).len
   have hran:∀l∈ordX n,∀x∈l,0≤x∧x<n:=fun l hl=>(ordX_ord hl).in
   have hlen:∀k,((List.range k).flatMap fun(f:Nat)=>(ordX n).map fun l=>(f:Int)::l.map (shf f)).length=k* (ordX n).length:=by
    intro k
    induction k with
    | zero=>simp
    | succ k ih=>rw[List.range_succ,List.flatMap_append,List.length_append,ih,Nat.succ_mul];simp
   rw[ordX]
   generalize ordX n=R at hle hord hran hlen ⊢
   refine Ret_loop (Inv:=fun x:List (List Int)×Int=>0≤x.2∧x.2≤n+1∧x.1=(List.range x.2.toNat).flatMap fun(f:Nat)=>R.map fun l=>(f:Int)::l.map (shf f)) (m:=fun x=>((n:Int)+1-x.2).toNat) ?_ _ _ ⟨by simp,by simp;omega,rfl⟩ (by simp only[fuel];omega)
   rintro ⟨out,f⟩ rec ⟨i1,i2,i3⟩ ih
   simp only at i1 i2 i3 ⊢
   refine Ret_dec (fun hlt=>?_) fun hge=>Ret_some (by rw[i3,show f.toNat=n+1 by omega])
   have ho:out.length≤6*720:=by
    rw[i3,hlen]
    exact Nat.mul_le_mul (by omega) hle
   refine Ret_loop (Inv:=fun x:List (List Int)×Int=>0≤x.2∧x.2≤R.length∧x.1=out++(R.take x.2.toNat).map fun l=>f::l.map (shf f)) (m:=fun x=>((R.length:Int)-x.2).toNat) ?_ _ _ ⟨by simp,by simp,by simp⟩ (by simp only[fuel];omega)
   rintro ⟨o2,i⟩ rec2 ⟨j1,j2,j3⟩ ih2
   simp only at j1 j2 j3 ⊢
   refine Ret_dec (fun hlt2=>?_) fun hge2=>?_
   ·have hin:=inb_t (i:=i) (n:=R.length) (by omega) (by omega)
    have hm:R.getD i.toNat []∈R:=by rw[List.getD,List.getElem?_eq_getElem (by omega)];exact List.getElem_mem _
    have et:=take_snocL (L:=R) (i:=i.toNat) (by omega)
    have ho2:o2.length≤6*720+720:=by rw[j3];simp;omega
    have hl:=hord _ hm
    have hr:=hran _ hm
    generalize R.getD i.toNat []=l at hm et hl hr ⊢
    refine Ret_loop (Inv:=fun x:List Int×Int=>0≤x.2∧x.2≤l.length∧x.1=f::(l.take x.2.toNat).map (shf f)) (m:=fun x=>((l.length:Int)-x.2).toNat) ?_ _ _ ⟨by simp,by simp,by simp⟩ (by simp only[fuel];omega)
    rintro ⟨o,k⟩ rec3 ⟨k1,k2,k3⟩ ih3
    simp only at k1 k2 k3 ⊢
    refine Ret_chk hin (Ret_dec (fun hlt3=>?_) fun hge3=>?_)
    ·have hx:=hr _ (getD_mem (L:=l) (i:=k.toNat) (by omega))
     have ol:o.length≤10:=by rw[k3];simp;omega
     have nxt:o++[shf f (l.getD k.toNat 0)]=f::(l.take (k+1).toNat).map (shf f):=by
      rw[show(k+1).toNat=k.toNat+1 by omega,take_snoc (by omega),List.map_append,k3];rfl
     refine Ret_chk hin (Ret_chk (inb_t (by omega) (by omega)) (Ret_dec (fun g=>?_) fun g=>?_))
     ·refine Ret_chk (i64b_t (by omega) (by omega)) (Ret_chk (lenOk_t (by omega)) (Ret_chk (i64b_t (by omega) (by omega)) (ih3 _ ⟨by simp only;omega,by simp only;omega,?_⟩ (by simp only;omega))))
      simp only
      rw[←nxt,shf,if_pos g]
     ·refine Ret_chk (lenOk_t (by omega)) (Ret_chk (i64b_t (by omega) (by omega)) (ih3 _ ⟨by simp only;omega,by simp only;omega,?_⟩ (by simp only;omega)))
      simp only
      rw[←nxt,shf,if_neg g]
    ·refine Ret_chk (lenOk_t (by omega)) (Ret_chk (i64b_t (by omega) (by omega)) (ih2 _ ⟨by simp only;omega,by simp only;omega,?_⟩ (by simp only;omega)))
     simp only
     rw[show(i+1).toNat=i.toNat+1 by omega,et,List.map_append,j3,k3,List.append_assoc,List.take_of_length_le (l:=l) (by omega)]
     rfl
   ·refine Ret_chk (i64b_t (by omega) (by omega)) (ih _ ⟨by simp only;omega,by simp only;omega,?_⟩ (by simp only;omega))
    simp only
    rw[show(f+1).toNat=f.toNat+1 by omega,List.range_succ,List.flatMap_append,j3,i3,List.take_of_length_le (l:=R) (by omega)]
    congr 1
    simp only[List.flatMap_cons,List.flatMap_nil,List.append_nil]
    rw[show((f.toNat:Nat):Int)=f by omega]
theorem law22_orders_ok {n:Nat} (h:n≤6):law22_orders fuel (n:Int)=some (ordX n):=orders_r_ok 10 n (by omega) h
end X
end Go.Vm
namespace Go.Vm
namespace X
open W Go.Proofs.St
theorem rings_folded_least_ok {s:List Int×List Int} (h:RValid s) {p:List Int} (hp:Ord s.1.length p):Ret (rings_folded_least fuel ((s,endR s.1),p)) fun r=>r.length=s.1.length∧Greedy (endR s.1) s.1.length p r:=by
 classical
 have hn:=h.le
 have hl:=hp.len
 have hel:=endR_len s.1
 unfold rings_folded_least
 refine Ret_bind (rings_rank_ok (p:=p) hp.in hp.nodup hn (by omega)) fun r hR=>?_
 have hr:=hR.rk
 have hr2:=hR.len
 refine Ret_chk (by simp;omega) ?_
 have hrx:=hr.eqF hp
 refine Ret_loop (Inv:=fun x:((List Int×Nat)×List Bool)=>x.1.1.length≤s.1.length∧x.1.2=p.length∧x.2.length=32∧(∀i:Nat,i<s.1.length→x.2.getD i false=decide ((i:Int)∈x.1.1))∧Greedy (endR s.1) s.1.length p x.1.1) (m:=fun x=>s.1.length-x.1.1.length) ?_ _ _ ⟨by simp,rfl,rfl,fun i hi=>?_,⟨List.nodup_nil,fun x hx=>by simp at hx,fun m hm=>by simp at hm,fun m hm=>by simp at hm⟩⟩ (by simp only[fuel];omega)
 ·rintro ⟨⟨o,cp⟩,tk⟩ rec ⟨i1,i2,i3,i4,i5⟩ ih
  simp only at i1 i2 i3 i4 i5 ⊢
  subst i2
  refine Ret_dec (fun hlt=>?_) fun hge=>Ret_chk (by simp[capIs];omega) (Ret_some ⟨by omega,i5⟩)
  obtain⟨j0,f1,f2,f3⟩:=free_ex (E:=endR s.1) hp (o:=o) (by omega)
  refine Ret_loop (Inv:=fun x:((List Int×Nat)×(Int×List Bool))=>x.1=(o,p.length)∧x.2.2=tk∧0≤x.2.1∧x.2.1≤p.length∧∀j:Int,0≤j→j<x.2.1→¬Free (endR s.1) s.1.length p o j) (m:=fun x=>((p.length:Int)-x.2.1).toNat) ?_ _ _ ⟨rfl,rfl,by simp,by simp,fun j a b=>by simp at b;omega⟩ (by simp only[fuel];omega)
  rintro ⟨⟨o',cp'⟩,i,tk'⟩ rec2 ⟨j1,j2,j3,j4,j5⟩ ih2
  simp only[Prod.mk.injEq] at j1 j2 j3 j4 j5 ⊢
  obtain⟨rfl,rfl⟩:=j1
  subst j2
  refine Ret_dec (fun hlt2=>?_) fun hge2=>absurd f3 (j5 j0 f1 (by omega))
  refine Ret_chk (inb_t (by omega) (by omega)) ?_
  refine Ret_loop (Inv:=fun x:Bool×Int=>0≤x.2∧x.2≤p.length∧(x.1=true↔i∉o'∧∀k:Int,0≤k→k<x.2→k∈o'∨rkF p i≤rkF p k∨ovl (endR s.1) i.toNat k.toNat=false)) (m:=fun x=>((p.length:Int)-x.2).toNat) ?_ _ _ ⟨by simp,by simp,?_⟩ (by simp only[fuel];omega)
  ·rintro ⟨fr,k⟩ rec3 ⟨k1,k2,k3⟩ ih3
   simp only at k1 k2 k3 ⊢
   refine Ret_dec (fun hlt3=>?_) fun hge3=>?_
   ·have nxt:∀b:Bool,(b=true↔fr=true∧(k∈o'∨rkF p i≤rkF p k∨ovl (endR s.1) i.toNat k.toNat=false))→Ret (chk (i64b (k+1)) (rec3 (b,k+1))) fun r=>r.length=s.1.length∧Greedy (endR s.1) s.1.length p r:=fun b hb=>by
     refine Ret_chk (i64b_t (by omega) (by omega)) (ih3 _ ⟨by simp only;omega,by simp only;omega,?_⟩ (by simp only;omega))
     simp only
     rw[hb,k3]
     constructor
     ·rintro ⟨⟨a,b⟩,c⟩
      refine⟨a,fun k' x y=>?_⟩
      by_cases e:k'=k
      ·subst e;exact c
      ·exact b k' x (by omega)
     ·rintro ⟨a,b⟩
      exact⟨⟨a,fun k' x y=>b k' x (by omega)⟩,b k k1 (by omega)⟩
    cases fr with
    | false=>exact nxt false (by simp)
    | true=>
      simp only[cond_true]
      have hk4:=i4 k.toNat (by omega)
      rw[show((k.toNat:Nat):Int)=k by omega] at hk4
      refine Ret_chk (inb_t (by omega) (by omega)) ?_
      rw[hk4]
      refine Ret_dec (fun g=>nxt true (by simp[g])) fun g=>?_
      refine Ret_chk (inb_t (by omega) (by omega)) (Ret_chk (inb_t (by omega) (by omega)) ?_)
      rw[hrx i (by omega) (by omega),hrx k (by omega) (by omega)]
      refine Ret_dec (fun g2=>nxt true (by simp[g2])) fun g2=>?_
      have ff:∀x:Int,0≤x→x<s.1.length→rings_folded_from fuel (((s.1,s.2),endR s.1),x)=some (frm (endR s.1) x.toNat):=fun x a b=>rings_from_ok hn hel a b
      have ft:∀x:Int,0≤x→x<s.1.length→rings_folded_to fuel (((s.1,s.2),endR s.1),x)=some (too (endR s.1) x.toNat):=fun x a b=>rings_to_ok hn hel a b
      rw[ff k k1 (by omega),Option.bind_some,ft i j3 (by omega),Option.bind_some]
      refine Ret_dec (fun g3=>nxt true (by simp[ovl];omega)) fun g3=>?_
      rw[ff i j3 (by omega),Option.bind_some,ft k k1 (by omega),Option.bind_some]
      refine nxt _ ?_
      simp only[g,g2,false_or,true_and,ovl,decide_eq_true_eq,Bool.and_eq_false_iff,decide_eq_false_iff_not]
      omega
   ·have hfull:fr=true↔Free (endR s.1) s.1.length p o' i:=by
     rw[k3]
     unfold Free
     rw[show k=((s.1.length:Nat):Int) by omega]
    cases fr with
    | true=>
      simp only[cond_true]
      have ea:appCap (some p.length) (o'.length+1)=some p.length:=by
       simp only[appCap]
       rw[show(o'.length+1).ble p.length=true by rw[ble_dec];simp;omega];rfl
      rw[ea]
      refine Ret_chk (inb_t (by omega) (by omega)) (Ret_chk (lenOk_t (by omega)) (Ret_chk rfl (ih _ ⟨by simp;omega,rfl,by simp only[List.length_set];exact i3,fun m hm=>?_,i5.snoc j3 (by omega) (hfull.1 rfl) fun j a b c=>?_⟩ (by simp;omega))))
      ·simp only
       rw[List.getD,List.getElem?_set]
       by_cases e:i.toNat=m
       ·rw[if_pos e,if_pos (by omega)]
        simp only[Option.getD_some,List.mem_append,List.mem_singleton]
        rw[show(m:Int)=i by omega]
        simp
       ·rw[if_neg e]
        have:=i4 m hm
        rw[List.getD] at this
        rw[this]
        have hne:¬(m:Int)=i:=by omega
        simp[hne]
      ·rcases Int.lt_or_le j i with g | g
       ·exact absurd c (j5 j a g)
       ·exact g
    | false=>
      refine Ret_chk (i64b_t (by omega) (by omega)) (ih2 _ ⟨rfl,rfl,by simp only;omega,by simp only;omega,fun j a b=>?_⟩ (by simp only;omega))
      simp only at b
      by_cases e:j=i
      ·subst e;exact fun g=>by have:=hfull.2 g;cases this
      ·exact j5 j a (by omega)
  ·simp only
   have hi4:=i4 i.toNat (by omega)
   rw[show((i.toNat:Nat):Int)=i by omega] at hi4
   rw[hi4]
   constructor
   ·intro g
    exact⟨by simpa using g,fun k a b=>by omega⟩
   ·rintro ⟨g,_⟩;simpa using g
 ·simp only
  have:i<32:=by omega
  rw[decide_eq_false (by simp)]
  rcases(by omega:i=0∨i=1∨i=2∨i=3∨i=4∨i=5∨i=6∨i=7∨i=8∨i=9∨i=10∨i=11∨i=12∨i=13∨i=14∨i=15∨i=16∨i=17∨i=18∨i=19∨i=20∨i=21∨i=22∨i=23∨i=24∨i=25∨i=26∨i=27∨i=28∨i=29∨i=30∨i=31) with rfl | rfl | rfl | rfl | rfl | rfl | rfl | rfl | rfl | rfl | rfl | rfl | rfl | rfl | rfl | rfl | rfl | rfl | rfl | rfl | rfl | rfl | rfl | rfl | rfl | rfl | rfl | rfl | rfl | rfl | rfl | rfl<;>rfl
theorem rings_Least_ok {s:List Int×List Int} (h:RValid s) {p:List Int} (hp:Ord s.1.length p):Ret (rings_Least fuel (s,p)) fun r=>r.2=0∧r.1.length=s.1.length∧Greedy (endR s.1) s.1.length p r.1:=by
 unfold rings_Least
 rw[show rings_listed fuel ((s.1,s.2),p)=some 0 from rings_listed_ord h hp,Option.bind_some]
 refine Ret_dec (fun g=>absurd rfl g) fun _=>?_
 rw[show rings_of fuel (s.1,s.2)=_ from rings_of_ok h,Option.bind_some]
 exact Ret_bind (rings_folded_least_ok h hp) fun r hr=>Ret_some ⟨rfl,hr⟩
theorem sameP_pairs {E:List Int} {n:Nat} {p q:List Int} (hp:Ord n p) (hq:Ord n q):(∀a b:Nat,a<b→b<n→ovl E (p.getD a 0).toNat (p.getD b 0).toNat=true→rkF q (p.getD a 0)<rkF q (p.getD b 0))↔SameP E n p q:=by
 have hl:=hp.len
 constructor
 ·intro h i k h0 h1 h2 ho
  obtain⟨a1,a2,a3⟩:=at_rkF (hp.memI (x:=i) (by omega) h2)
  obtain⟨b1,b2,b3⟩:=at_rkF (hp.memI (x:=k) h0 (by omega))
  have hne:rkF p i≠rkF p k:=fun e=>by
   have:=rkF_inj (hp.memI (x:=i) (by omega) h2) (hp.memI h0 (by omega)) e
   omega
  constructor
  ·intro g
   have:=h (rkF p i).toNat (rkF p k).toNat (by omega) (by omega) (by rw[a2,b2];exact ho)
   rwa[a2,b2] at this
  ·intro g
   rcases Int.lt_or_le (rkF p i) (rkF p k) with g2 | g2
   ·exact g2
   ·have:=h (rkF p k).toNat (rkF p i).toNat (by omega) (by omega) (by rw[a2,b2,ovl_symm];exact ho)
    rw[a2,b2] at this
    omega
 ·intro h a b hab hb ho
  have m1:=hp.in _ (getD_mem (L:=p) (i:=a) (by omega))
  have m2:=hp.in _ (getD_mem (L:=p) (i:=b) (by omega))
  refine(h.all hp hq m1.1 m1.2 m2.1 m2.2 ho).1 ?_
  rw[rkF_at hp.nodup (by omega),rkF_at hp.nodup (by omega)]
  omega
end X
end Go.Vm
namespace Go.Vm
namespace X
open W Go.Proofs.St
theorem list_loop {β:Type} {L:List Int} {K:Option β} {Q:β→Prop} (hl:L.length≤10000) (no:Int→Option β) (hK:Ret K Q):
  Ret (loopF (fun rec10 (x10:Int)=>bif(decide (x10< ((L.length:Nat):Int))) then(chk (inb x10 L.length) (chk (inb x10 L.length) (bif(decide ((L.getD x10.toNat 0)≠(L.getD x10.toNat 0))) then(no x10) else(chk (i64b (x10+1)) (rec10 (x10+1)))))) else K) fuel 0) Q:=by
 refine Ret_loop (Inv:=fun i:Int=>0≤i∧i≤L.length) (m:=fun i=>((L.length:Int)-i).toNat) ?_ _ _ ⟨by simp,by simp⟩ (by simp only[fuel];omega)
 rintro i rec ⟨j1,j2⟩ ih
 refine Ret_dec (fun hlt=>?_) fun hge=>hK
 exact Ret_chk (inb_t (by omega) (by omega)) (Ret_chk (inb_t (by omega) (by omega)) (Ret_dec (fun g=>absurd rfl g) fun _=>Ret_chk (i64b_t (by omega) (by omega)) (ih _ ⟨by omega,by omega⟩ (by omega))))
set_option maxRecDepth 100000 in
set_option maxHeartbeats 1000000 in
theorem law22_RingsLeast_true {a0 a1 y:List Int} {l:Int} (h0:bytes a0) (h1:bytes a1) (hl:0≤l∧l≤255) (hy:bytes y):law22_RingsLeast fuel (((a0,a1),(l,())),y)=some true:=by
 apply Ret.eq
 unfold law22_RingsLeast
 refine Ret_chk (by simp[bnb];omega) ?_
 have hb0:bytes ((a0.drop 0).take (min ((a0.length:Nat):Int) 5).toNat):=fun x hx=>h0 x (by rw[List.drop_zero] at hx;exact List.mem_of_mem_take hx)
 refine Ret_bind (law22_N_Of_ok (a:=(((a0.drop 0).take (min ((a0.length:Nat):Int) 5).toNat,a1),(l,()))) hb0 h1 hl) fun s ⟨h,h8,hlen⟩=>?_
 have hn6:s.1.length≤6:=by
  simp only[List.length_take] at hlen
  omega
 refine Ret_bind (O_Of_ok hy (n:=s.1.length) (by omega)) fun p hp=>?_
 rw[show law22_ends fuel (s.1,s.2)=some (endR s.1) from law22_ends_ok h,Option.bind_some]
 refine Ret_bind (rings_Least_ok h hp) fun L ⟨hL0,hLl,hLg⟩=>?_
 have hpl:=hp.len
 have hel:=endR_len s.1
 refine Ret_dec (fun g=>absurd hL0 g) fun _=>?_
 rw[law22_orders_ok hn6,Option.bind_some]
 have hoLe:=ordX_le hn6
 have hLord:=hLg.ord hLl
 have hLsame:=hLg.same hp hLl
 have hmem:∀q:List Int,q∈ordX s.1.length↔Ord s.1.length q:=fun q=>⟨ordX_ord,ordX_mem⟩
 have hsrt:=ordX_sorted s.1.length
 generalize ordX s.1.length=R at hoLe hmem hsrt ⊢
 have bd:∀i:Nat,i≤s.1.length→ -10000≤(endR s.1).getD i 0∧(endR s.1).getD i 0≤10000:=fun i hi=>by
  rw[endR_getD hi]
  have:=eR_bd (L:=s.1) h.lens i hi
  omega
 refine Ret_loop (Inv:=fun x:Int=>0≤x∧x≤R.length∧∀k:Nat,(k:Int)<x→¬SameP (endR s.1) s.1.length p (R.getD k [])) (m:=fun x=>((R.length:Int)-x).toNat) ?_ _ _ ⟨by simp,by simp,fun k hk=>by omega⟩ (by simp only[fuel];omega)
 rintro i rec ⟨i1,i2,i3⟩ ih
 refine Ret_dec (fun hlt=>?_) fun hge=>?_
 ·have hin:=inb_t (i:=i) (n:=R.length) (by omega) (by omega)
  have hqm:R.getD i.toNat []∈R:=by rw[List.getD,List.getElem?_eq_getElem (by omega)];exact List.getElem_mem _
  have hq:=(hmem _).1 hqm
  have hbefore:∀k:Nat,k<i.toNat→cmpI (R.getD k []) (R.getD i.toNat [])<0:=fun k hk=>by
   rw[List.getD,List.getElem?_eq_getElem (by omega),List.getD,List.getElem?_eq_getElem (by omega)]
   exact List.pairwise_iff_getElem.1 hsrt k i.toNat (by omega) (by omega) hk
  generalize hqe:R.getD i.toNat []=q at hqm hq hbefore ⊢
  have hql:=hq.len
  refine Ret_chk (by simp;omega) ?_
  refine Ret_loop (Inv:=fun x:Int×(List Int×Option Nat)=>0≤x.1∧x.1≤s.1.length∧x.2.1.length=s.1.length∧∀k:Nat,k<x.1.toNat→x.2.1.getD (q.getD k 0).toNat 0=k) (m:=fun x=>((s.1.length:Int)-x.1).toNat) ?_ _ _ ⟨by simp,by simp,by simp,by simp⟩ (by simp only[fuel];omega)
  rintro ⟨k,at_,cp⟩ rec2 ⟨k1,k2,k3,k4⟩ ih2
  simp only at k1 k2 k3 k4 ⊢
  refine Ret_dec (fun hlt2=>?_) fun hge2=>?_
  ·have hx:=hq.in _ (getD_mem (L:=q) (i:=k.toNat) (by omega))
   have:=set_rk hq.nodup hq.in (by omega) (by omega) k4
   rw[show((k.toNat:Nat):Int)=k by omega,show k.toNat+1=(k+1).toNat by omega] at this
   exact Ret_chk hin (Ret_chk (inb_t (by omega) (by omega)) (Ret_chk (inb_t (by omega) (by omega)) (Ret_chk (i64b_t (by omega) (by omega)) (ih2 _ ⟨by simp only;omega,by simp only;omega,by simp only[List.length_set];exact k3,this⟩ (by simp only;omega)))))
  ·have hrk:Rk q at_:=fun j hj=>k4 j (by omega)
   have hfg:=hrk.eqF hq
   refine Ret_loop (Inv:=fun x:Bool×Int=>0≤x.2∧x.2≤s.1.length∧(x.1=true↔∀a b:Nat,(a:Int)<x.2→a<b→b<s.1.length→ovl (endR s.1) (p.getD a 0).toNat (p.getD b 0).toNat=true→rkF q (p.getD a 0)<rkF q (p.getD b 0))) (m:=fun x=>((s.1.length:Int)-x.2).toNat) ?_ _ _ ⟨by simp,by simp,by simp only[true_iff];intro a b ha;omega⟩ (by simp only[fuel];omega)
   rintro ⟨c,a⟩ rec3 ⟨a1,a2,a3⟩ ih3
   simp only at a1 a2 a3 ⊢
   refine Ret_dec (fun hlt3=>?_) fun hge3=>?_
   ·refine Ret_chk (i64b_t (by omega) (by omega)) ?_
    refine Ret_loop (Inv:=fun x:Bool×Int=>a<x.2∧x.2≤s.1.length∧(x.1=true↔c=true∧∀b:Nat,a<b→(b:Int)<x.2→ovl (endR s.1) (p.getD a.toNat 0).toNat (p.getD b 0).toNat=true→rkF q (p.getD a.toNat 0)<rkF q (p.getD b 0))) (m:=fun x=>((s.1.length:Int)-x.2).toNat) ?_ _ _ ⟨by simp only;omega,by simp only;omega,⟨fun g=>⟨g,fun b u v=>by omega⟩,fun g=>g.1⟩⟩ (by simp only[fuel];omega)
    rintro ⟨d,b⟩ rec4 ⟨b1,b2,b3⟩ ih4
    simp only at b1 b2 b3 ⊢
    refine Ret_dec (fun hlt4=>?_) fun hge4=>?_
    ·have m1:=hp.in _ (getD_mem (L:=p) (i:=a.toNat) (by omega))
     have m2:=hp.in _ (getD_mem (L:=p) (i:=b.toNat) (by omega))
     have nxt:∀e:Bool,(e=true↔d=true∧(ovl (endR s.1) (p.getD a.toNat 0).toNat (p.getD b.toNat 0).toNat=true→rkF q (p.getD a.toNat 0)<rkF q (p.getD b.toNat 0)))→Ret (chk (i64b (b+1)) (rec4 (e,b+1))) (fun x=>x=true):=fun e he=>by
      refine Ret_chk (i64b_t (by omega) (by omega)) (ih4 _ ⟨by simp only;omega,by simp only;omega,?_⟩ (by simp only;omega))
      simp only
      rw[he,b3]
      constructor
      ·rintro ⟨⟨u,v⟩,w⟩
       refine⟨u,fun b' x y=>?_⟩
       by_cases e':(b':Int)=b
       ·rw[show b'=b.toNat by omega];exact w
       ·exact v b' x (by omega)
      ·rintro ⟨u,v⟩
       exact⟨⟨u,fun b' x y=>v b' x (by omega)⟩,v b.toNat (by omega) (by omega)⟩
     have f1:=hfg _ m1.1 m1.2
     have f2:=hfg _ m2.1 m2.2
     generalize p.getD a.toNat 0=u at m1 nxt f1 ⊢
     generalize p.getD b.toNat 0=v at m2 nxt f2 ⊢
     have eu:(u+1).toNat=u.toNat+1:=by omega
     have ev:(v+1).toNat=v.toNat+1:=by omega
     rw[eu,ev]
     have ia:=inb_t (i:=a) (n:=p.length) (by omega) (by omega)
     have ib:=inb_t (i:=b) (n:=p.length) (by omega) (by omega)
     have iu:=inb_t (i:=u) (n:=(endR s.1).length) (by omega) (by omega)
     have iu1:=inb_t (i:=u+1) (n:=(endR s.1).length) (by omega) (by omega)
     have iv:=inb_t (i:=v) (n:=(endR s.1).length) (by omega) (by omega)
     have iv1:=inb_t (i:=v+1) (n:=(endR s.1).length) (by omega) (by omega)
     have ju:=inb_t (i:=u) (n:=at_.length) (by omega) (by omega)
     have jv:=inb_t (i:=v) (n:=at_.length) (by omega) (by omega)
     have bu:=i64b_t (n:=u+1) (by omega) (by omega)
     have bv:=i64b_t (n:=v+1) (by omega) (by omega)
     simp only[ia,ib,iu,iu1,iv,iv1,ju,jv,bu,bv,chk_t]
     refine Ret_dec (fun g=>?_) fun g=>nxt d ⟨fun x=>⟨x,fun o=>?_⟩,fun x=>x.1⟩
     ·refine Ret_dec (fun g2=>?_) fun g2=>nxt d ⟨fun x=>⟨x,fun o=>?_⟩,fun x=>x.1⟩
      ·cases d with
       | false=>exact nxt false (by simp)
       | true=>
         refine nxt _ ?_
         rw[f1,f2,decide_eq_true_iff]
         refine⟨fun x=>⟨rfl,fun _=>x⟩,fun x=>x.2 ?_⟩
         simp only[ovl,frm,too,Bool.and_eq_true,decide_eq_true_eq]
         exact⟨decide_eq_true g,decide_eq_true g2⟩
      ·simp only[ovl,frm,too,Bool.and_eq_true,decide_eq_true_eq] at o
       exact absurd (of_decide_eq_true o.2) g2
     ·simp only[ovl,frm,too,Bool.and_eq_true,decide_eq_true_eq] at o
      exact absurd (of_decide_eq_true o.1) g
    ·refine Ret_chk (i64b_t (by omega) (by omega)) (ih3 _ ⟨by simp only;omega,by simp only;omega,?_⟩ (by simp only;omega))
     simp only
     rw[b3,a3]
     constructor
     ·rintro ⟨u,v⟩ a' b' x y z
      by_cases e':(a':Int)=a
      ·rw[show a'=a.toNat by omega]
       exact v b' (by omega) (by omega)
      ·exact u a' b' (by omega) y z
     ·intro u
      refine⟨fun a' b' x y z=>u a' b' (by omega) y z,fun b' x y=>?_⟩
      exact u a.toNat b' (by omega) (by omega) (by omega)
   ·have hsm:c=true↔SameP (endR s.1) s.1.length p q:=by
     rw[a3,←sameP_pairs hp hq]
     exact⟨fun u a' b' x y=>u a' b' (by omega) x y,fun u a' b' x y z=>u a' b' y z⟩
    cases c with
    | true=>
      have sm:=hsm.1 rfl
      have eL:L.1=q:=by
       refine eq_of_not_lt (by omega) (fun lt=>?_) (hLg.first hp hLl hq sm)
       obtain⟨k,hk,e⟩:=List.mem_iff_getElem.1 ((hmem L.1).2 hLord)
       have ek:R.getD k []=L.1:=by rw[List.getD,List.getElem?_eq_getElem hk];exact e
       rcases Nat.lt_trichotomy k i.toNat with g | g | g
       ·exact i3 k (by omega) (by rw[ek];exact hLsame)
       ·rw[g,hqe] at ek
        rw[ek] at lt
        obtain⟨m,_,_,_,e⟩:=lt
        omega
       ·have hc:cmpI q L.1<0:=by
         rw[←hqe,←ek,List.getD,List.getElem?_eq_getElem (by omega),List.getD,List.getElem?_eq_getElem (by omega)]
         exact List.pairwise_iff_getElem.1 hsrt i.toNat k (by omega) (by omega) g
        have l2:=cmpI_lex (by omega) hc
        obtain⟨m,_,_,_,e⟩:=lt.trans l2
        omega
      simp only[cond_true]
      refine Ret_chk hin ?_
      rw[eL]
      refine Ret_dec (fun g=>absurd rfl g) fun _=>Ret_dec (fun g=>absurd rfl g) fun _=>?_
      refine list_loop (by omega) (fun _=>some false) ?_
      rw[lives22]
      exact Ret_some rfl
    | false=>
      refine Ret_chk (i64b_t (by omega) (by omega)) (ih _ ⟨by omega,by omega,fun k hk=>?_⟩ (by omega))
      by_cases e:(k:Int)=i
      ·rw[show k=i.toNat by omega,hqe]
       intro g
       have:=hsm.2 g
       cases this
      ·exact i3 k (by omega)
 ·obtain⟨k,hk,e⟩:=List.mem_iff_getElem.1 ((hmem L.1).2 hLord)
  have ek:R.getD k []=L.1:=by rw[List.getD,List.getElem?_eq_getElem hk];exact e
  exact absurd hLsame (by rw[←ek];exact i3 k (by omega))
end X
end Go.Vm
