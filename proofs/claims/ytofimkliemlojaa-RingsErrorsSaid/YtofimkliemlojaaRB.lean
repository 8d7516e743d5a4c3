/-
  Rings: what is shared with the piles of strips.
  Rings: crossing, by creases and by stacks.
  Rings: plain laws: the law's rings, Check, of, ends.
  Rings: plain laws: the law's rings are valid.
-/
import Derived.Test.YtofimkliemlojaaQ7
import Derived.Test.YtofimkliemlojaaXG7
import Derived.KernelRfl
set_option linter.unusedSimpArgs false
set_option linter.unusedVariables false
set_option linter.unusedSectionVars false
set_option linter.unnecessarySimpa false
namespace Go.Vm
namespace X
open W
def bytes (L:List Int):Prop:=∀x∈L,0≤x∧x≤255
theorem getD_set {L:List Int} {i k:Nat} {v:Int} (hi:i<L.length):(L.set i v).getD k 0=if k=i then v else L.getD k 0:=by
 simp only[List.getD,List.getElem?_set]
 by_cases h:i=k
 ·subst h;simp[hi]
 ·simp[h,Ne.symm h]
theorem all_of_getD {L:List Int} {P:Int→Prop} (h:∀i:Nat,i<L.length→P (L.getD i 0)):∀x∈L,P x:=fun x hx=>by
 obtain⟨i,hi,rfl⟩:=List.mem_iff_getElem.1 hx
 have:=h i hi
 simpa[List.getD,List.getElem?_eq_getElem hi] using this
theorem take_snoc {L:List Int} {i:Nat} (h:i<L.length):L.take (i+1)=L.take i++[L.getD i 0]:=by
 rw[List.take_add_one,List.getD,List.getElem?_eq_getElem h];rfl
theorem chk_t {β:Type} {c:Bool} {x:Option β} (h:c=true):chk c x=x:=by rw[h];rfl
def frm (E:List Int) (i:Nat):Int:=min (E.getD i 0) (E.getD (i+1) 0)
def too (E:List Int) (i:Nat):Int:=max (E.getD i 0) (E.getD (i+1) 0)
def isOver (E:List Int) (at_ n:Int):Bool:=decide (frm E n.toNat≤at_)&&decide (at_<too E n.toNat)
def overL (E p:List Int) (at_:Int):List Int:=p.filter (isOver E at_)
def In (n:Nat) (p:List Int):Prop:=∀x∈p,0≤x∧x<n
def idL (n:Nat):List Int:=(List.range n).map Int.ofNat
theorem idL_len (n:Nat):(idL n).length=n:=by simp[idL]
theorem idL_snoc (n:Nat):idL (n+1)=idL n++[(n:Int)]:=by simp[idL,List.range_succ]
theorem mem_idL {n:Nat} {x:Int}:x∈idL n↔0≤x∧x<n:=by
 simp only[idL,List.mem_map,List.mem_range]
 constructor
 ·rintro ⟨a,h,rfl⟩;exact⟨by simp,by simp;omega⟩
 ·intro h;exact⟨x.toNat,by omega,by simp;omega⟩
theorem idL_nodup (n:Nat):(idL n).Nodup:=by
 unfold idL
 exact List.nodup_range.map (f:=Int.ofNat) (fun a b h h2=>h (Int.ofNat.inj h2))
def Ord (n:Nat) (p:List Int):Prop:=p.Perm (idL n)
theorem Ord.len {n:Nat} {p:List Int} (h:Ord n p):p.length=n:=by rw[h.length_eq,idL_len]
theorem Ord.in {n:Nat} {p:List Int} (h:Ord n p):In n p:=fun x hx=>mem_idL.1 (h.mem_iff.1 hx)
theorem Ord.nodup {n:Nat} {p:List Int} (h:Ord n p):p.Nodup:=h.nodup_iff.2 (idL_nodup n)
theorem Ord.mem {n:Nat} {p:List Int} (h:Ord n p) {i:Nat} (hi:i<n):(i:Int)∈p:=h.mem_iff.2 (mem_idL.2 ⟨by omega,by omega⟩)
def BadW (w:List Int):Prop:=∃c:Int,0≤c∧([c, -1,c].Sublist w∨∃d:Int,0≤d∧d≠c∧[c,d,c,d].Sublist w)
def Twice (w:List Int):Prop:=∀g:Int,0≤g→g∈w→w.count g=2
def fitsG:List Int→List Int→Bool
 | _,[]=>true
 | o,g::L=>if g= -2 then fitsG o L else if g= -1 then(if o=[] then fitsG o L else false) else if g∉o then fitsG (o++[g]) L else if o.getLast?=some g then fitsG o.dropLast L else false
theorem sub_skip {x:Int} {l:List Int}:∀ {A w:List Int},x∉A→(x::l).Sublist (A++w)→(x::l).Sublist w
 | [],_,_,h=>h
 | a::A,w,hn,h=>by
   rw[List.cons_append] at h
   have hx:x≠a:=fun e=>hn (e▸List.mem_cons_self)
   cases h with
   | cons _ h=>exact sub_skip (fun h'=>hn (List.mem_cons_of_mem _ h')) h
   | cons_cons _ h=>exact absurd rfl hx
theorem sub_filter {f:Int→Bool} {l w w':List Int} (h:l.Sublist w) (hl:∀x∈l,f x=true) (hw:(w.filter f).Sublist w'):l.Sublist w':=by
 have:=h.filter f
 rw[List.filter_eq_self.2 hl] at this
 exact this.trans hw
theorem filter_mid {f:Int→Bool} {A B L:List Int} (hB:B.filter f=[]):((A++B++L).filter f).Sublist (A++L):=by
 rw[List.filter_append,List.filter_append,hB,List.append_nil,←List.filter_append]
 exact List.filter_sublist
theorem bad_mono {w w':List Int} (h:w.Sublist w'):BadW w→BadW w':=by
 rintro ⟨c,h0,h1 | ⟨d,h1,h2,h3⟩⟩
 ·exact⟨c,h0,.inl (h1.trans h)⟩
 ·exact⟨c,h0,.inr ⟨d,h1,h2,h3.trans h⟩⟩
theorem bad_drop {A B L:List Int} {q:Int→Bool} (hB:B.filter q=[]) (hq:∀c:Int,BadW (A++B++L)→True)
  (hc:∀c d:Int,0≤c→d≠c→(d= -1∨0≤d)→[c,d,c].Sublist (A++B++L)→q c=true)
  (hd:∀c d:Int,0≤c→0≤d→d≠c→[c,d,c,d].Sublist (A++B++L)→q d=true) (h1:q (-1)=true):BadW (A++B++L)→BadW (A++L):=by
 rintro ⟨c,h0,h | ⟨d,g1,g2,h⟩⟩
 ·refine⟨c,h0,.inl (sub_filter h (fun x hx=>?_) (filter_mid hB))⟩
  have:=hc c (-1) h0 (by omega) (.inl rfl) h
  simp only[List.mem_cons,List.not_mem_nil,or_false] at hx
  rcases hx with rfl | rfl | rfl<;>assumption
 ·refine⟨c,h0,.inr ⟨d,g1,g2,sub_filter h (fun x hx=>?_) (filter_mid hB)⟩⟩
  have k1:=hc c d h0 g2 (.inr g1) (List.Sublist.trans (by simp) h)
  have k2:=hd c d h0 g1 g2 h
  simp only[List.mem_cons,List.not_mem_nil,or_false] at hx
  rcases hx with rfl | rfl | rfl | rfl<;>assumption
theorem bad_neg {A L:List Int}:BadW (A++[-2]++L)↔BadW (A++L):=by
 refine⟨bad_drop (q:=fun x=>decide (x≠ -2)) (by simp) (fun _ _=>trivial) (fun c d h _ _ _=>by simp;omega) (fun c d _ h _ _=>by simp;omega) (by simp),bad_mono ?_⟩
 exact List.Sublist.append (List.sublist_append_left A [-2]) (List.Sublist.refl L)
theorem no_adj {A L:List Int} {g d:Int} (hA:g∉A) (hL:g∉L) (hd:d≠g):¬ [g,d,g].Sublist (A++[g,g]++L):=fun h=>by
 rw[List.append_assoc] at h
 have h:=sub_skip hA h
 cases h with
 | cons _ h=>
   cases h with
   | cons _ h=>exact hL (h.subset (by simp))
   | cons_cons _ h=>exact hL (h.subset (by simp))
 | cons_cons _ h=>
   cases h with
   | cons _ h=>exact hL (h.subset (by simp))
   | cons_cons _ h=>exact hd rfl
theorem bad_pair {A L:List Int} {g:Int} (hg:0≤g) (hA:g∉A) (hL:g∉L):BadW (A++[g,g]++L)↔BadW (A++L):=by
 refine⟨bad_drop (q:=fun x=>decide (x≠g)) (by simp) (fun _ _=>trivial) (fun c d h h2 _ hs=>?_) (fun c d h h1 h2 hs=>?_) (by simp;omega),bad_mono ?_⟩
 ·rw[decide_eq_true_eq]
  rintro rfl
  exact no_adj hA hL h2 hs
 ·rw[decide_eq_true_eq]
  rintro rfl
  exact no_adj hA hL (d:=c) (fun e=>h2 e.symm) (List.Sublist.trans (by simp) hs)
 ·exact List.Sublist.append (List.sublist_append_left A [g,g]) (List.Sublist.refl L)
theorem fitsG_iff:∀(L o:List Int),o.Nodup→(∀x∈o,0≤x)→(∀x∈L, -2≤x)→Twice (o++L)→(fitsG o L=true↔¬BadW (o++L))
 | [],o,hn,ho,_,ht=>by
   match o,hn,ho,ht with
   | [],_,_,_=>
     refine⟨fun _=>?_,fun _=>rfl⟩
     rintro ⟨c,_,h | ⟨d,_,_,h⟩⟩<;>simp at h
   | a::o,hn,ho,ht=>
     have:=ht a (ho a List.mem_cons_self) (by simp)
     rw[List.append_nil,List.count_cons_self,List.count_eq_zero.2 (List.nodup_cons.1 hn).1] at this
     omega
 | g::L,o,hn,ho,hl,ht=>by
   have hl':∀x∈L, -2≤x:=fun x hx=>hl x (List.mem_cons_of_mem _ hx)
   unfold fitsG
   by_cases e2:g= -2
   ·subst e2
    rw[if_pos rfl,fitsG_iff L o hn ho hl' (fun x h0 hx=>?_),←bad_neg,List.append_assoc]
    ·rfl
    ·have:=ht x h0 (by simp only[List.mem_append,List.mem_cons] at hx ⊢;exact hx.elim .inl (fun h=>.inr (.inr h)))
     rw[List.count_append,List.count_cons_of_ne (by omega)] at this
     rw[List.count_append];exact this
   rw[if_neg e2]
   by_cases e1:g= -1
   ·subst e1
    rw[if_pos rfl]
    by_cases eo:o=[]
    ·subst eo
     rw[if_pos rfl,fitsG_iff L [] hn ho hl' (fun x h0 hx=>?_)]
     ·rw[List.nil_append,List.nil_append]
      refine not_congr ⟨bad_mono (by simp),?_⟩
      rintro ⟨c,h0,h | ⟨d,h1,h2,h⟩⟩
      ·cases h with
       | cons _ h=>exact⟨c,h0,.inl h⟩
       | cons_cons _ h=>omega
      ·cases h with
       | cons _ h=>exact⟨c,h0,.inr ⟨d,h1,h2,h⟩⟩
       | cons_cons _ h=>omega
     ·have:=ht x h0 (by simp only[List.mem_append,List.mem_cons] at hx ⊢;exact hx.elim .inl (fun h=>.inr (.inr h)))
      rw[List.nil_append,List.count_cons_of_ne (by omega)] at this
      exact this
    ·rw[if_neg eo]
     refine⟨fun h=>(by cases h),fun h=>absurd ?_ h⟩
     match o,hn,ho,ht,eo with
     | a::o,hn,ho,ht,_=>
       have ha:=ho a List.mem_cons_self
       have:=ht a ha (by simp)
       rw[List.cons_append,List.count_cons_self,List.count_append,List.count_eq_zero.2 (List.nodup_cons.1 hn).1,List.count_cons_of_ne (by omega)] at this
       have hm:a∈L:=List.count_pos_iff.1 (by omega)
       refine⟨a,ha,.inl ?_⟩
       rw[List.cons_append]
       refine List.Sublist.cons_cons _ (List.Sublist.trans (List.Sublist.cons_cons _ (List.singleton_sublist.2 hm)) (List.sublist_append_right _ _))
   rw[if_neg e1]
   have hg:0≤g:=by have:=hl g List.mem_cons_self;omega
   have hgt:=ht g hg (by simp)
   rw[List.count_append,List.count_cons_self] at hgt
   by_cases em:g∈o
   ·rw[if_neg (fun h=>h em)]
    have hco:o.count g=1:=by
     have h1:=List.count_pos_iff.2 em
     have h2:=List.nodup_iff_count.1 hn g
     omega
    have hgL:g∉L:=List.count_eq_zero.1 (by omega)
    by_cases el:o.getLast?=some g
    ·rw[if_pos el]
     obtain⟨A,rfl⟩:∃A,o=A++[g]:=List.getLast?_eq_some_iff.1 el
     have hgA:g∉A:=fun h=>by
      have:=(List.nodup_append.1 hn).2.2 g h g (by simp)
      exact this rfl
     rw[List.dropLast_concat,fitsG_iff L A (List.nodup_append.1 hn).1 (fun x hx=>ho x (List.mem_append.2 (.inl hx))) hl' (fun x h0 hx=>?_)]
     ·rw[←bad_pair hg hgA hgL]
      simp
     ·have hxg:x≠g:=fun e=>by
       rcases List.mem_append.1 hx with h | h
       ·exact hgA (e▸h)
       ·exact hgL (e▸h)
      have:=ht x h0 (by simp only[List.mem_append,List.mem_cons] at hx ⊢;exact hx.elim (fun h=>.inl (.inl h)) (fun h=>.inr (.inr h)))
      rw[List.count_append,List.count_append,List.count_cons_of_ne (fun e=>hxg e.symm),List.count_cons_of_ne (fun e=>hxg e.symm),List.count_nil] at this
      rw[List.count_append]
      omega
    ·rw[if_neg el]
     refine⟨fun h=>(by cases h),fun h=>absurd ?_ h⟩
     obtain⟨A,B,rfl⟩:=List.append_of_mem em
     match B,el,hn,ho,ht,hco with
     | [],el,_,_,_,_=>exact absurd (by simp) el
     | d::B,el,hn,ho,ht,hco=>
       have hd0:=ho d (by simp)
       have hn2:=List.nodup_append.1 hn
       have hdg:d≠g:=fun e=>by
        have:=(List.nodup_cons.1 hn2.2.1).1
        exact this (e▸List.mem_cons_self)
       have hdo:(A++g::d::B).count d≤1:=List.nodup_iff_count.1 hn d
       have hdt:=ht d hd0 (by simp)
       rw[List.count_append,List.count_cons_of_ne (fun e=>hdg e.symm)] at hdt
       have hdL:d∈L:=List.count_pos_iff.1 (by omega)
       refine⟨g,hg,.inr ⟨d,hd0,hdg,?_⟩⟩
       have:[g,d,g,d].Sublist ((g::d::B)++(g::L)):=by
        rw[List.cons_append,List.cons_append]
        refine List.Sublist.cons_cons _ (List.Sublist.cons_cons _ (List.Sublist.trans (List.Sublist.cons_cons _ (List.singleton_sublist.2 hdL)) (List.sublist_append_right _ _)))
       rw[List.append_assoc]
       exact this.trans (List.sublist_append_right _ _)
   ·rw[if_pos em]
    have e:o++g::L=(o++[g])++L:=by simp
    rw[e,fitsG_iff L (o++[g]) (List.nodup_append.2 ⟨hn,by simp,fun a ha b hb e=>em (by simp at hb;rw[←hb,←e];exact ha)⟩) (fun x hx=>?_) hl' (by rw[←e];exact ht)]
    rcases List.mem_append.1 hx with h | h
    ·exact ho x h
    ·simp at h;omega
def ab (a c:Int) (O:List Int):Nat:=(O.filter fun x=>decide (x=a)||decide (x=c)).length
theorem ab_eq {a c:Int}:∀ {O:List Int},O.Nodup→ab a c O=if a=c then(if a∈O then 1 else 0) else(if a∈O then 1 else 0)+ (if c∈O then 1 else 0)
 | [],_=>by simp[ab]
 | x::O,h=>by
   obtain⟨h1,h2⟩:=List.nodup_cons.1 h
   have ih:=ab_eq (a:=a) (c:=c) h2
   unfold ab at ih ⊢
   rw[List.filter_cons]
   simp only[List.mem_cons]
   by_cases e1:x=a
   ·subst e1
    have:x∉O:=h1
    simp only[decide_true,Bool.true_or,if_true,List.length_cons,true_or] at ih ⊢
    rw[ih]
    by_cases e2:x=c
    ·subst e2;simp[h1]
    ·have e3:¬c=x:=fun h=>e2 h.symm
     simp[h1,e2,e3];omega
   ·have e1':¬a=x:=fun h=>e1 h.symm
    by_cases e2:x=c
    ·subst e2
     simp[h1,e1,e1'] at ih ⊢
     rw[ih]
    ·have e2':¬c=x:=fun h=>e2 h.symm
     simp only[e1,e2,e1',e2',decide_false,Bool.or_self,false_or,if_false,Bool.false_eq_true] at ih ⊢
     exact ih
theorem mem_overL {E p:List Int} {v x:Int}:x∈overL E p v↔x∈p∧frm E x.toNat≤v∧v<too E x.toNat:=by
 simp[overL,isOver,List.mem_filter]
theorem overL_nodup {E p:List Int} {v:Int} (h:p.Nodup):(overL E p v).Nodup:=h.filter _
theorem not_mem_getD {o:List Int} {g:Int} (h:∀k:Nat,k<o.length→o.getD k 0≠g):g∉o:=fun hm=>by
 obtain⟨k,hk,e⟩:=List.mem_iff_getElem.1 hm
 exact h k hk (by rw[List.getD,List.getElem?_eq_getElem hk];exact e)
def Rk (p r:List Int):Prop:=∀i:Nat,i<p.length→r.getD (p.getD i 0).toNat 0=i
theorem getD_inj {p:List Int} (h:p.Nodup) {i j:Nat} (hi:i<p.length) (hj:j<p.length) (e:p.getD i 0=p.getD j 0):i=j:=by
 rw[List.getD,List.getD,List.getElem?_eq_getElem hi,List.getElem?_eq_getElem hj] at e
 exact(List.getElem_inj h).1 e
theorem set_rk {p r:List Int} {i:Nat} (hd:p.Nodup) {n:Nat} (hp:In n p) (hr:n≤r.length) (hi:i<p.length) (h:∀k:Nat,k<i→r.getD (p.getD k 0).toNat 0=k):
  ∀k:Nat,k<i+1→(r.set (p.getD i 0).toNat (i:Int)).getD (p.getD k 0).toNat 0=k:=fun k hk=>by
 have b1:=hp _ (getD_mem (L:=p) (i:=i) hi)
 have b2:=hp _ (getD_mem (L:=p) (i:=k) (by omega))
 rw[getD_set (by omega)]
 by_cases e:k=i
 ·subst e;rw[if_pos rfl]
 ·rw[if_neg (fun e2=>e (getD_inj hd (by omega) hi (by omega))),h k (by omega)]
theorem sub_of_pairwise {f:Int→Int}:∀ {p l:List Int},p.Pairwise (fun a b=>f a<f b)→l.Pairwise (fun a b=>f a<f b)→(∀x∈l,x∈p)→l.Sublist p
 | _,[],_,_,_=>List.nil_sublist _
 | [],a::l,_,_,h=>absurd (h a List.mem_cons_self) (by simp)
 | a::p,b::l,hp,hl,h=>by
   obtain⟨p1,p2⟩:=List.pairwise_cons.1 hp
   obtain⟨l1,l2⟩:=List.pairwise_cons.1 hl
   by_cases e:b=a
   ·subst e
    refine List.Sublist.cons_cons _ (sub_of_pairwise p2 l2 fun x hx=>?_)
    rcases List.mem_cons.1 (h x (List.mem_cons_of_mem _ hx)) with rfl | h'
    ·have:=l1 _ hx;omega
    ·exact h'
   ·have hb:b∈p:=(List.mem_cons.1 (h b List.mem_cons_self)).resolve_left e
    refine List.Sublist.cons _ (sub_of_pairwise p2 hl fun x hx=>?_)
    rcases List.mem_cons.1 (h x hx) with rfl | h'
    ·exfalso
     have k1:=p1 _ hb
     rcases List.mem_cons.1 hx with rfl | hx
     ·exact e rfl
     ·have:=l1 _ hx;omega
    ·exact h'
theorem map3 {f:Int→Int} {a b c:Int}:∀ {l:List Int},[a,b,c]=l.map f→∃x y z,l=[x,y,z]∧a=f x∧b=f y∧c=f z
 | [],e=>by simp at e
 | [_],e=>by simp at e
 | [_,_],e=>by simp at e
 | [x,y,z],e=>by simp at e;exact⟨x,y,z,rfl,e.1,e.2.1,e.2.2⟩
 | _::_::_::_::_,e=>by simp at e
theorem map4 {f:Int→Int} {a b c d:Int}:∀ {l:List Int},[a,b,c,d]=l.map f→∃x y z w,l=[x,y,z,w]∧a=f x∧b=f y∧c=f z∧d=f w
 | [],e=>by simp at e
 | [_],e=>by simp at e
 | [_,_],e=>by simp at e
 | [_,_,_],e=>by simp at e
 | [x,y,z,w],e=>by simp at e;exact⟨x,y,z,w,rfl,e.1,e.2.1,e.2.2.1,e.2.2.2⟩
 | _::_::_::_::_::_,e=>by simp at e
theorem eight {a b c d:Int} (d1:a<c∨c<a) (d2:a<d∨d<a) (d3:b<c∨c<b) (d4:b<d∨d<b) (d5:a<b∨b<a) (d6:c<d∨d<c) (h:¬((min a b<c∧c<max a b)↔(min a b<d∧d<max a b))):
  (a<c∧c<b∧b<d)∨(a<d∧d<b∧b<c)∨(b<c∧c<a∧a<d)∨(b<d∧d<a∧a<c)∨(c<a∧a<d∧d<b)∨(c<b∧b<d∧d<a)∨(d<a∧a<c∧c<b)∨(d<b∧b<c∧c<a):=by
 by_cases hc:min a b<c∧c<max a b<;>by_cases hd:min a b<d∧d<max a b
 ·exact absurd ⟨fun _=>hd,fun _=>hc⟩ h
 ·clear h d6
  rcases d5 with d5 | d5
  ·have k1:a<c∧c<b:=by omega
   have k2:d<a∨b<d:=by omega
   clear hc hd d1 d2 d3 d4
   rcases k2 with k2 | k2
   ·exact(.inr (.inr (.inr (.inr (.inr (.inr (.inl ⟨by omega,by omega,by omega⟩)))))))
   ·exact(.inl ⟨by omega,by omega,by omega⟩)
  ·have k1:b<c∧c<a:=by omega
   have k2:d<b∨a<d:=by omega
   clear hc hd d1 d2 d3 d4
   rcases k2 with k2 | k2
   ·exact(.inr (.inr (.inr (.inr (.inr (.inr (.inr ⟨by omega,by omega,by omega⟩)))))))
   ·exact(.inr (.inr (.inl ⟨by omega,by omega,by omega⟩)))
 ·clear h d6
  rcases d5 with d5 | d5
  ·have k1:a<d∧d<b:=by omega
   have k2:c<a∨b<c:=by omega
   clear hc hd d1 d2 d3 d4
   rcases k2 with k2 | k2
   ·exact(.inr (.inr (.inr (.inr (.inl ⟨by omega,by omega,by omega⟩)))))
   ·exact(.inr (.inl ⟨by omega,by omega,by omega⟩))
  ·have k1:b<d∧d<a:=by omega
   have k2:c<b∨a<c:=by omega
   clear hc hd d1 d2 d3 d4
   rcases k2 with k2 | k2
   ·exact(.inr (.inr (.inr (.inr (.inr (.inl ⟨by omega,by omega,by omega⟩))))))
   ·exact(.inr (.inr (.inr (.inl ⟨by omega,by omega,by omega⟩))))
 ·exact absurd ⟨fun h=>absurd h hc,fun h=>absurd h hd⟩ h
theorem Ret_list {ι σ β:Type} {done:σ→Option β} {step:ι→(σ→Option β)→σ→Option β} {Q:β→Prop} (Inv:List ι→σ→Prop) (h0:∀x,Inv [] x→Ret (done x) Q)
  (h1:∀y l rec x,Inv (y::l) x→(∀x',Inv l x'→Ret (rec x') Q)→Ret (step y rec x) Q):∀l x,Inv l x→Ret (listF done step l x) Q
 | [],x,h=>h0 x h
 | y::l,x,h=>h1 y l _ x h fun x' h'=>Ret_list Inv h0 h1 l x' h'
theorem perm_of_sub:∀ {l p:List Int},l.Nodup→(∀x∈l,x∈p)→∃q,p.Perm (l++q)
 | [],p,_,_=>⟨p,List.Perm.refl _⟩
 | a::l,p,hn,h=>by
   obtain⟨h1,h2⟩:=List.nodup_cons.1 hn
   have ha:=h a List.mem_cons_self
   obtain⟨q,hq⟩:=perm_of_sub (l:=l) (p:=p.erase a) h2 fun x hx=>(List.mem_erase_of_ne (fun e:x=a=>h1 (by rw[←e];exact hx))).2 (h x (List.mem_cons_of_mem _ hx))
   exact⟨q,(List.perm_cons_erase ha).trans (hq.cons a)⟩
theorem ord_of {n:Nat} {p:List Int} (hl:p.length=n) (h:∀i:Nat,i<n→(i:Int)∈p):Ord n p:=by
 obtain⟨q,hq⟩:=perm_of_sub (idL_nodup n) (p:=p) fun x hx=>by
  have:=mem_idL.1 hx
  have:=h x.toNat (by omega)
  rwa[show((x.toNat:Nat):Int)=x by omega] at this
 have:=hq.length_eq
 rw[List.length_append,idL_len] at this
 have:q=[]:=List.eq_nil_of_length_eq_zero (by omega)
 subst this
 rw[List.append_nil] at hq
 exact hq
def rkF (p:List Int) (x:Int):Int:=(p.idxOf x:Nat)
theorem rkF_at {p:List Int} (h:p.Nodup) {i:Nat} (hi:i<p.length):rkF p (p.getD i 0)=i:=by
 rw[List.getD,List.getElem?_eq_getElem hi,Option.getD_some,rkF,h.idxOf_getElem i hi]
theorem at_rkF {p:List Int} {x:Int} (h:x∈p):(rkF p x).toNat<p.length∧p.getD (rkF p x).toNat 0=x∧0≤rkF p x:=by
 have h1:=List.idxOf_lt_length_of_mem h
 unfold rkF
 refine⟨by omega,?_,by omega⟩
 rw[Int.toNat_natCast,List.getD,List.getElem?_eq_getElem h1,Option.getD_some,List.getElem_idxOf h1]
theorem rkF_pw {p:List Int} (h:p.Nodup):p.Pairwise fun a b=>rkF p a<rkF p b:=by
 rw[List.pairwise_iff_getElem]
 intro i j hi hj hij
 simp only[rkF,h.idxOf_getElem]
 omega
theorem Rk.rk {p r:List Int} (h:Rk p r) (hn:p.Nodup) {x:Int} (hx:x∈p):r.getD x.toNat 0=rkF p x:=by
 obtain⟨h1,h2,h3⟩:=at_rkF hx
 have:=h _ h1
 rw[h2] at this
 rw[this];omega
theorem rkF_inj {p:List Int} {x y:Int} (hx:x∈p) (hy:y∈p) (h:rkF p x=rkF p y):x=y:=by
 rw[←(at_rkF hx).2.1,h,(at_rkF hy).2.1]
theorem Ord.memI {n:Nat} {p:List Int} (h:Ord n p) {x:Int} (h0:0≤x) (h1:x<n):x∈p:=h.mem_iff.2 (mem_idL.2 ⟨h0,h1⟩)
theorem Rk.eqF {p r:List Int} {n:Nat} (h:Rk p r) (hp:Ord n p):∀x:Int,0≤x→x<n→r.getD x.toNat 0=rkF p x:=fun x h0 h1=>h.rk hp.nodup (hp.memI h0 h1)
end X
end Go.Vm
namespace Go.Vm
namespace X
open W
structure REnds (E:List Int) (n:Nat):Prop where
 len:E.length=n+1
 two:2≤n
 even:n%2=0
 closed:E.getD n 0=E.getD 0 0
 up:∀i:Nat,i<n→i%2=0→E.getD i 0<E.getD (i+1) 0
 down:∀i:Nat,i<n→i%2=1→E.getD (i+1) 0<E.getD i 0
def sc (n:Nat) (i:Int):Int:=if i+1<n then i+1 else 0
def labR (E:List Int) (n:Nat) (t x:Int):Int:=
 if E.getD (x.toNat+1) 0=t then x else if E.getD x.toNat 0=t then(if x=0 then(n:Int)-1 else x-1) else -1
section
variable {E:List Int} {n:Nat} (h:REnds E n)
include h
theorem REnds.ne {i:Nat} (hi:i<n):E.getD i 0≠E.getD (i+1) 0:=by
 rcases Nat.mod_two_eq_zero_or_one i with e | e
 ·have:=h.up i hi e;omega
 ·have:=h.down i hi e;omega
theorem REnds.at_sc {i:Int} (h0:0≤i) (h1:i<n):E.getD (sc n i).toNat 0=E.getD (i.toNat+1) 0:=by
 unfold sc
 split
 ·rw[show(i+1).toNat=i.toNat+1 by omega]
 ·rw[show i.toNat+1=n by omega,h.closed];rfl
theorem REnds.sc_lt {i:Int} (h0:0≤i) (h1:i<n):0≤sc n i∧sc n i<n∧sc n i≠i∧(sc n i).toNat%2≠i.toNat%2:=by
 have:=h.two;have:=h.even
 unfold sc
 split<;>omega
omit h in
theorem sc_inj {i j:Int} (h0:0≤i) (h1:i<n) (h2:0≤j) (h3:j<n) (e:sc n i=sc n j):i=j:=by
 unfold sc at e
 split at e<;>split at e<;>omega
theorem labR_iff {t x g:Int} (hx:0≤x∧x<n) (hg:0≤g):labR E n t x=g↔(g<n∧E.getD (g.toNat+1) 0=t∧(x=g∨x=sc n g)):=by
 have hn:=h.ne (i:=x.toNat) (by omega)
 have h2:=h.two
 constructor
 ·intro e
  unfold labR at e
  split at e
  ·subst e;exact⟨hx.2,by assumption,.inl rfl⟩
  ·split at e
   ·rename_i e1
    split at e
    ·rename_i x0
     subst x0
     subst e
     refine⟨by omega,?_,.inr ?_⟩
     ·rw[show((n:Int)-1).toNat+1=n by omega,h.closed];exact e1
     ·unfold sc;rw[if_neg (by omega)]
    ·refine⟨by omega,?_,.inr ?_⟩
     ·rw[show g.toNat+1=x.toNat by omega];exact e1
     ·unfold sc;rw[if_pos (by omega)];omega
   ·omega
 ·rintro ⟨h1,ht,rfl | e⟩
  ·unfold labR;rw[if_pos ht]
  ·have e1:=h.at_sc hg h1
   rw[←e,ht] at e1
   unfold labR
   rw[if_neg (by rw[←e1];exact fun h=>hn h.symm),if_pos e1]
   unfold sc at e
   split at e
   ·rw[if_neg (by omega)];omega
   ·rw[if_pos e];omega
omit h in
theorem labR_neg {t x:Int} (hx:0≤x) (hx':x<n):labR E n t x= -1↔(E.getD x.toNat 0≠t∧E.getD (x.toNat+1) 0≠t):=by
 unfold labR
 constructor
 ·intro e
  split at e
  ·omega
  ·split at e
   ·split at e<;>omega
   ·exact⟨by assumption,by assumption⟩
 ·rintro ⟨h1,h2⟩
  rw[if_neg h2,if_neg h1]
omit h in
theorem labR_ge {t x:Int} (hx:0≤x) (hx':x<n): -1≤labR E n t x:=by
 unfold labR
 split
 ·omega
 ·split
  ·split<;>omega
  ·omega
end
def BetR (n:Nat) (f:Int→Int) (i x:Int):Prop:=min (f i) (f (sc n i))<f x∧f x<max (f i) (f (sc n i))
def CrossR (E:List Int) (n:Nat) (f:Int→Int):Prop:=∃i:Int,0≤i∧i<n∧((∃j:Int,0≤j∧j<n∧frm E j.toNat<E.getD (i.toNat+1) 0∧E.getD (i.toNat+1) 0<too E j.toNat∧BetR n f i j)∨
 ∃j:Int,0≤j∧j<n∧j≠i∧E.getD (j.toNat+1) 0=E.getD (i.toNat+1) 0∧(E.getD (i.toNat+1) 0<E.getD j.toNat 0↔E.getD (i.toNat+1) 0<E.getD i.toNat 0)∧¬(BetR n f i j↔BetR n f i (sc n j)))
def stkR (E p:List Int) (n:Nat) (t u:Int):List Int:=(overL E p u).map (labR E n t)
section
variable {E:List Int} {n:Nat} (h:REnds E n) {p:List Int} (hp:Ord n p) {t u:Int} (hu:u=t-1∨u=t)
include h hp hu
omit h hu in
theorem stkR_ge:∀x∈stkR E p n t u, -2≤x:=fun x hx=>by
 obtain⟨y,hy,rfl⟩:=List.mem_map.1 hx
 have:=hp.in y (mem_overL.1 hy).1
 have:=labR_ge (E:=E) (t:=t) this.1 this.2
 omega
theorem both_inR {g:Int} (hg:0≤g) (h1:g<n) (ht:E.getD (g.toNat+1) 0=t):(g∈overL E p u↔sc n g∈overL E p u)∧(g∈overL E p u↔(t<E.getD g.toNat 0↔u=t)):=by
 obtain⟨c0,c1,_,c3⟩:=h.sc_lt hg h1
 have ea:=h.at_sc hg h1
 have m1:g∈p:=hp.mem_iff.2 (mem_idL.2 ⟨hg,by omega⟩)
 have m2:sc n g∈p:=hp.mem_iff.2 (mem_idL.2 ⟨by omega,by omega⟩)
 simp only[mem_overL,m1,m2,true_and]
 unfold frm too
 rw[ea,ht]
 have k1:=h.up g.toNat (by omega);have k2:=h.down g.toNat (by omega)
 have k3:=h.up (sc n g).toNat (by omega);have k4:=h.down (sc n g).toNat (by omega)
 rw[ht] at k1 k2
 rw[ea,ht] at k3 k4
 rcases Nat.mod_two_eq_zero_or_one g.toNat with e | e
 ·have k1:=k1 e
  have k4:=k4 (by omega)
  clear k2 k3
  rcases hu with rfl | rfl<;>constructor<;>constructor<;>intro h'<;>(try constructor)<;>omega
 ·have k2:=k2 e
  have k3:=k3 (by omega)
  clear k1 k4
  rcases hu with rfl | rfl<;>constructor<;>constructor<;>intro h'<;>(try constructor)<;>omega
theorem twice_stkR:Twice (stkR E p n t u):=fun g hg hm=>by
 obtain⟨y,hy,e⟩:=List.mem_map.1 hm
 have hyi:=hp.in y (mem_overL.1 hy).1
 obtain⟨h1,h2,h3⟩:=(labR_iff h hyi hg).1 e
 obtain⟨b1,b2⟩:=both_inR h hp hu hg h1 h2
 obtain⟨_,_,hne,_⟩:=h.sc_lt hg h1
 have m1:g∈overL E p u:=by
  rcases h3 with rfl | rfl
  ·exact hy
  ·exact b1.2 hy
 have m2:=b1.1 m1
 have hnd:(overL E p u).Nodup:=overL_nodup hp.nodup
 have e2:=ab_eq (a:=g) (c:=sc n g) hnd
 rw[if_neg (by omega),if_pos m1,if_pos m2] at e2
 unfold stkR
 rw[List.count_eq_countP,List.countP_map,List.countP_eq_length_filter]
 unfold ab at e2
 show _=1+1
 rw[←e2]
 congr 1
 refine List.filter_congr fun x hx=>?_
 have hxi:=hp.in x (mem_overL.1 hx).1
 have:=labR_iff h (t:=t) hxi hg
 simp only[Function.comp]
 rw[Bool.eq_iff_iff]
 simp only[beq_iff_eq,Bool.or_eq_true,decide_eq_true_eq]
 rw[this]
 exact⟨fun h=>h.2.2,fun h'=>⟨h1,h2,h'⟩⟩
theorem fitsR_iff:fitsG [] (stkR E p n t u)=true↔¬BadW (stkR E p n t u):=by
 have:=fitsG_iff (stkR E p n t u) [] List.nodup_nil (by simp) (stkR_ge hp) (by rw[List.nil_append];exact twice_stkR h hp hu)
 rwa[List.nil_append] at this
variable {f:Int→Int} (hf:p.Pairwise fun a b=>f a<f b)
include hf
theorem crossR_of_bad:BadW (stkR E p n t u)→CrossR E n f:=by
 have hov:(overL E p u).Sublist p:=List.filter_sublist
 have inn:∀x∈overL E p u,0≤x∧x<n:=fun x hx=>hp.in x (mem_overL.1 hx).1
 rintro ⟨c,hc,hs | ⟨d,hd,hdc,hs⟩⟩
 ·obtain⟨l',hl,e⟩:=List.sublist_map_iff.1 hs
  obtain⟨x,z,y,rfl,e1,e2,e3⟩:=map3 e
  have pw:=(hf.sublist (hl.trans hov))
  simp only[List.pairwise_cons,List.mem_cons,List.not_mem_nil,or_false,forall_eq_or_imp,forall_eq] at pw
  have mx:=hl.subset (show x∈[x,z,y] by simp)
  have mz:=hl.subset (show z∈[x,z,y] by simp)
  have my:=hl.subset (show y∈[x,z,y] by simp)
  have ix:=inn x mx
  have iz:=inn z mz
  have iy:=inn y my
  obtain⟨g1,g2,g3⟩:=(labR_iff h ix hc).1 e1.symm
  obtain⟨_,_,g4⟩:=(labR_iff h iy hc).1 e3.symm
  obtain⟨n1,n2⟩:=(labR_neg iz.1 iz.2).1 e2.symm
  have oz:=(mem_overL.1 mz).2
  have xy:x≠y:=fun e=>by subst e;omega
  refine⟨c,hc,g1,.inl ⟨z,iz.1,iz.2,?_,?_,?_⟩⟩
  ·rw[g2];unfold frm too at *;omega
  ·rw[g2];unfold frm too at *;omega
  ·unfold BetR
   rcases g3 with rfl | rfl<;>rcases g4 with rfl | rfl
   ·exact absurd rfl xy
   ·omega
   ·omega
   ·exact absurd rfl xy
 ·obtain⟨l',hl,e⟩:=List.sublist_map_iff.1 hs
  obtain⟨x,v,y,w,rfl,e1,e2,e3,e4⟩:=map4 e
  have pw:=(hf.sublist (hl.trans hov))
  simp only[List.pairwise_cons,List.mem_cons,List.not_mem_nil,or_false,forall_eq_or_imp,forall_eq] at pw
  have mx:=hl.subset (show x∈[x,v,y,w] by simp)
  have mv:=hl.subset (show v∈[x,v,y,w] by simp)
  have my:=hl.subset (show y∈[x,v,y,w] by simp)
  have mw:=hl.subset (show w∈[x,v,y,w] by simp)
  obtain⟨g1,g2,g3⟩:=(labR_iff h (inn x mx) hc).1 e1.symm
  obtain⟨_,_,g4⟩:=(labR_iff h (inn y my) hc).1 e3.symm
  obtain⟨k1,k2,k3⟩:=(labR_iff h (inn v mv) hd).1 e2.symm
  obtain⟨_,_,k4⟩:=(labR_iff h (inn w mw) hd).1 e4.symm
  have xy:x≠y:=fun e=>by subst e;omega
  have vw:v≠w:=fun e=>by subst e;omega
  obtain⟨b1,b2⟩:=both_inR h hp hu hc g1 g2
  obtain⟨b3,b4⟩:=both_inR h hp hu hd k1 k2
  have mc:c∈overL E p u:=by
   rcases g3 with rfl | rfl
   ·exact mx
   ·exact b1.2 mx
  have md:d∈overL E p u:=by
   rcases k3 with rfl | rfl
   ·exact mv
   ·exact b3.2 mv
  have q1:=b2.1 mc
  have q2:=b4.1 md
  refine⟨c,hc,g1,.inr ⟨d,hd,k1,hdc,by rw[g2,k2],by rw[g2,q1,q2],?_⟩⟩
  unfold BetR
  rcases g3 with rfl | rfl<;>rcases g4 with rfl | rfl<;>rcases k3 with rfl | rfl<;>rcases k4 with rfl | rfl<;>first | exact absurd rfl xy | exact absurd rfl vw | omega
end
set_option maxHeartbeats 1000000 in
theorem badR_of_cross {E:List Int} {n:Nat} (h:REnds E n) {p:List Int} (hp:Ord n p) {f:Int→Int} (hf:p.Pairwise fun a b=>f a<f b) (hc:CrossR E n f):
  ∃i:Nat,i<n∧∃u,(u=E.getD (i+1) 0-1∨u=E.getD (i+1) 0)∧BadW (stkR E p n (E.getD (i+1) 0) u):=by
 have inj:∀x y:Int,0≤x→x<n→0≤y→y<n→x≠y→f x<f y∨f y<f x:=fun x y hx hx' hy hy' hxy=>by
  have mx:x∈p:=hp.mem_iff.2 (mem_idL.2 ⟨hx,hx'⟩)
  have my:y∈p:=hp.mem_iff.2 (mem_idL.2 ⟨hy,hy'⟩)
  obtain⟨i,hi,rfl⟩:=List.mem_iff_getElem.1 mx
  obtain⟨j,hj,rfl⟩:=List.mem_iff_getElem.1 my
  have:=List.pairwise_iff_getElem.1 hf
  rcases Nat.lt_trichotomy i j with e | e | e
  ·exact .inl (this i j hi hj e)
  ·subst e;exact absurd rfl hxy
  ·exact .inr (this j i hj hi e)
 obtain⟨i,hi0,hi1,hh⟩:=hc
 have ei:(i.toNat:Int)=i:=by omega
 refine⟨i.toNat,by omega,?_⟩
 obtain⟨si0,si1,si2,_⟩:=h.sc_lt hi0 hi1
 have eai:=h.at_sc hi0 hi1
 generalize ht:E.getD (i.toNat+1) 0=t at *
 have hov:∀u,(overL E p u).Pairwise (fun a b=>f a<f b):=fun u=>hf.sublist List.filter_sublist
 have l1:∀x:Int,x=i∨x=sc n i→labR E n t x=i:=fun x hx=>(labR_iff h (by rcases hx with rfl | rfl<;>omega) hi0).2 ⟨hi1,ht,hx⟩
 refine⟨if t<E.getD i.toNat 0 then t else t-1,by split<;>omega,?_⟩
 generalize hu:(if t<E.getD i.toNat 0 then t else t-1)=u
 have hu':u=t-1∨u=t:=by rw[←hu];split<;>omega
 have hut:u=t↔t<E.getD i.toNat 0:=by rw[←hu];split<;>omega
 obtain⟨b1,b2⟩:=both_inR h hp hu' hi0 hi1 ht
 have mi:i∈overL E p u:=b2.2 hut.symm
 have mi1:=b1.1 mi
 rcases hh with⟨j,j0,j1,j2,j3,j4⟩ | ⟨j,j0,j1,j2,j3,j4,j5⟩
 ·have mj:j∈overL E p u:=mem_overL.2 ⟨hp.mem_iff.2 (mem_idL.2 ⟨j0,j1⟩),by omega,by omega⟩
  have lj:labR E n t j= -1:=(labR_neg j0 j1).2 (by unfold frm too at *;omega)
  have key:∀x y,(x=i∧y=sc n i)∨(x=sc n i∧y=i)→f x<f j→f j<f y→BadW (stkR E p n t u):=fun x y hxy g1 g2=>by
   refine⟨i,hi0,.inl ?_⟩
   have mx:x∈overL E p u:=by rcases hxy with⟨rfl,_⟩ | ⟨rfl,_⟩<;>assumption
   have my:y∈overL E p u:=by rcases hxy with⟨_,rfl⟩ | ⟨_,rfl⟩<;>assumption
   have:=(sub_of_pairwise (l:=[x,j,y]) (hov u) (by simp;omega) (by simp[mx,mj,my])).map (labR E n t)
   simp only[List.map_cons,List.map_nil] at this
   rw[l1 x (hxy.imp And.left And.left),l1 y (by rcases hxy with⟨_,rfl⟩ | ⟨_,rfl⟩;exact .inr rfl;exact .inl rfl),lj] at this
   exact this
  unfold BetR at j4
  rcases Int.lt_or_le (f i) (f (sc n i)) with g | g
  ·exact key i (sc n i) (.inl ⟨rfl,rfl⟩) (by omega) (by omega)
  ·exact key (sc n i) i (.inr ⟨rfl,rfl⟩) (by omega) (by omega)
 ·obtain⟨sj0,sj1,sj2,_⟩:=h.sc_lt j0 j1
  have eaj:=h.at_sc j0 j1
  obtain⟨c1,c2⟩:=both_inR h hp hu' j0 j1 j3
  have mj:j∈overL E p u:=c2.2 (by rw[j4,hut])
  have mj1:=c1.1 mj
  have l2:∀x:Int,x=j∨x=sc n j→labR E n t x=j:=fun x hx=>(labR_iff h (by rcases hx with rfl | rfl<;>omega) j0).2 ⟨j1,j3,hx⟩
  have n1:j≠sc n i:=by
   intro e
   have:=h.ne (i:=j.toNat) (by omega)
   rw[e] at this j3
   rw[eai] at this
   exact this j3.symm
  have n2:i≠sc n j:=by
   intro e
   have:=h.ne (i:=i.toNat) (by omega)
   rw[e,eaj] at this
   rw[e] at ht
   exact this (j3.trans ht.symm)
  have n3:sc n i≠sc n j:=fun e=>j2 (sc_inj hi0 hi1 j0 j1 e).symm
  have d1:=inj i j hi0 (by omega) j0 (by omega) (fun e=>j2 e.symm)
  have d2:=inj i (sc n j) hi0 (by omega) (by omega) (by omega) n2
  have d3:=inj (sc n i) j (by omega) (by omega) j0 (by omega) (fun e=>n1 e.symm)
  have d4:=inj (sc n i) (sc n j) (by omega) (by omega) (by omega) (by omega) n3
  have d5:=inj i (sc n i) (by omega) (by omega) (by omega) (by omega) (fun e=>si2 e.symm)
  have d6:=inj j (sc n j) (by omega) (by omega) (by omega) (by omega) (fun e=>sj2 e.symm)
  have key:∀a b:Int,0≤a→0≤b→b≠a→∀x v y w:Int,labR E n t x=a→labR E n t y=a→labR E n t v=b→labR E n t w=b→x∈overL E p u→v∈overL E p u→y∈overL E p u→w∈overL E p u→f x<f v→f v<f y→f y<f w→BadW (stkR E p n t u):=fun a b ha hb hab x v y w lx ly lv lw mx mv my mw g1 g2 g3=>by
   refine⟨a,ha,.inr ⟨b,hb,hab,?_⟩⟩
   have:=(sub_of_pairwise (l:=[x,v,y,w]) (hov u) (by simp;omega) (by simp[mx,mv,my,mw])).map (labR E n t)
   simp only[List.map_cons,List.map_nil] at this
   rw[lx,ly,lv,lw] at this
   exact this
  have k1:=fun x v y w (hx:x=i∨x=sc n i) (hv:v=j∨v=sc n j) (hy:y=i∨y=sc n i) (hw:w=j∨w=sc n j)=>key i j hi0 j0 j2 x v y w (l1 x hx) (l1 y hy) (l2 v hv) (l2 w hw) (by rcases hx with rfl | rfl<;>assumption) (by rcases hv with rfl | rfl<;>assumption) (by rcases hy with rfl | rfl<;>assumption) (by rcases hw with rfl | rfl<;>assumption)
  have k2:=fun x v y w (hx:x=j∨x=sc n j) (hv:v=i∨v=sc n i) (hy:y=j∨y=sc n j) (hw:w=i∨w=sc n i)=>key j i j0 hi0 (fun e=>j2 e.symm) x v y w (l2 x hx) (l2 y hy) (l1 v hv) (l1 w hw) (by rcases hx with rfl | rfl<;>assumption) (by rcases hv with rfl | rfl<;>assumption) (by rcases hy with rfl | rfl<;>assumption) (by rcases hw with rfl | rfl<;>assumption)
  unfold BetR at j5
  have fin:=eight d1 d2 d3 d4 d5 d6 j5
  rcases fin with⟨g1,g2,g3⟩ | ⟨g1,g2,g3⟩ | ⟨g1,g2,g3⟩ | ⟨g1,g2,g3⟩ | ⟨g1,g2,g3⟩ | ⟨g1,g2,g3⟩ | ⟨g1,g2,g3⟩ | ⟨g1,g2,g3⟩
  ·exact k1 i j (sc n i) (sc n j) (.inl rfl) (.inl rfl) (.inr rfl) (.inr rfl) g1 g2 g3
  ·exact k1 i (sc n j) (sc n i) j (.inl rfl) (.inr rfl) (.inr rfl) (.inl rfl) g1 g2 g3
  ·exact k1 (sc n i) j i (sc n j) (.inr rfl) (.inl rfl) (.inl rfl) (.inr rfl) g1 g2 g3
  ·exact k1 (sc n i) (sc n j) i j (.inr rfl) (.inr rfl) (.inl rfl) (.inl rfl) g1 g2 g3
  ·exact k2 j i (sc n j) (sc n i) (.inl rfl) (.inl rfl) (.inr rfl) (.inr rfl) g1 g2 g3
  ·exact k2 j (sc n i) (sc n j) i (.inl rfl) (.inr rfl) (.inr rfl) (.inl rfl) g1 g2 g3
  ·exact k2 (sc n j) i j (sc n i) (.inr rfl) (.inl rfl) (.inl rfl) (.inr rfl) g1 g2 g3
  ·exact k2 (sc n j) (sc n i) j i (.inr rfl) (.inr rfl) (.inl rfl) (.inl rfl) g1 g2 g3
end X
end Go.Vm
namespace Go.Vm
namespace X
open W
def eR (L:List Int):Nat→Int
 | 0=>0
 | i+1=>eR L i+L.getD i 0* (1-2* ((i:Int)%2))
theorem eR_step {L:List Int} {i:Nat}:eR L (i+1)=eR L i+L.getD i 0* (1-2* ((i:Int)%2)):=rfl
def endR (L:List Int):List Int:=(List.range (L.length+1)).map (eR L)
theorem endR_len (L:List Int):(endR L).length=L.length+1:=by simp[endR]
theorem endR_getD {L:List Int} {i:Nat} (h:i≤L.length):(endR L).getD i 0=eR L i:=by
 unfold endR;rw[List.getD,List.getElem?_map,List.getElem?_range (by omega)];rfl
theorem sg (i:Nat):(i%2=0∧(1-2* ((i:Int)%2))=1)∨(i%2=1∧(1-2* ((i:Int)%2))= -1):=by omega
theorem eR_even {L:List Int} {i:Nat} (h:i%2=0):eR L (i+1)=eR L i+L.getD i 0:=by
 rw[eR_step,show(1-2* ((i:Int)%2))=1 by omega,Int.mul_one]
theorem eR_odd {L:List Int} {i:Nat} (h:i%2=1):eR L (i+1)=eR L i-L.getD i 0:=by
 rw[eR_step,show(1-2* ((i:Int)%2))= -1 by omega];omega
theorem eR_bd {L:List Int} (h:∀x∈L,1≤x∧x≤64):∀i:Nat,i≤L.length→ -(64* (i:Int))≤eR L i∧eR L i≤64*i
 | 0,_=>by simp[eR]
 | i+1,hi=>by
   have ih:=eR_bd h i (by omega)
   have hx:=h _ (getD_mem (L:=L) (i:=i) (by omega))
   rcases sg i with⟨e,_⟩ | ⟨e,_⟩
   ·rw[eR_even e];omega
   ·rw[eR_odd e];omega
structure RValid (s:List Int×List Int):Prop where
 le:s.1.length≤32
 two:2≤s.1.length
 even:s.1.length%2=0
 kl:s.2.length=s.1.length
 lens:∀x∈s.1,1≤x∧x≤64
 kinds:∀x∈s.2,1≤x∧x≤3
 closed:eR s.1 s.1.length=0
theorem RValid.ends {s:List Int×List Int} (h:RValid s):REnds (endR s.1) s.1.length where
 len:=endR_len _
 two:=h.two
 even:=h.even
 closed:=by rw[endR_getD (Nat.le_refl _),endR_getD (Nat.zero_le _),h.closed];rfl
 up i hi e:=by
  have hx:=h.lens _ (getD_mem (L:=s.1) (i:=i) hi)
  rw[endR_getD (by omega),endR_getD (by omega),eR_even e];omega
 down i hi e:=by
  have hx:=h.lens _ (getD_mem (L:=s.1) (i:=i) hi)
  rw[endR_getD (by omega),endR_getD (by omega),eR_odd e];omega
theorem rings_Check_ok {s:List Int×List Int} (h:RValid s):rings_Check fuel s=some 0:=by
 obtain⟨h1,h2,h3,h4,h5,h6,h7⟩:=h
 apply Ret.eq
 unfold rings_Check
 refine Ret_dec (fun g=>absurd g (by omega)) fun _=>Ret_dec (fun g=>absurd g (by omega)) fun _=>Ret_dec (fun g=>absurd g (by omega)) fun _=>?_
 refine Ret_chk (by rw[Bool.and_eq_true];exact⟨decide_eq_true (by omega),rfl⟩) (Ret_dec (fun g=>absurd g (by omega)) fun _=>?_)
 refine Ret_loop (Inv:=fun x:Int×Int=>0≤x.2∧x.2≤s.1.length∧x.1=eR s.1 x.2.toNat) (m:=fun x=>((s.1.length:Int)-x.2).toNat) ?_ _ _ ⟨by simp,by simp,rfl⟩ (by simp only[fuel];omega)
 rintro ⟨at_,i⟩ rec ⟨i1,i2,i3⟩ ih
 simp only at i1 i2 i3 ⊢
 obtain⟨n,rfl⟩:=Int.eq_ofNat_of_zero_le i1
 simp only[Int.toNat_natCast] at i3 ⊢
 refine Ret_dec (fun hlt=>?_) fun hge=>?_
 ·have hx:=h5 _ (getD_mem (L:=s.1) (i:=n) (by omega))
  have hk:=h6 _ (getD_mem (L:=s.2) (i:=n) (by omega))
  have hb:=eR_bd (L:=s.1) h5 n (by omega)
  have hin:inb (n:Int) s.1.length=true:=inb_t (by omega) (by omega)
  have hin2:inb (n:Int) s.2.length=true:=inb_t (by omega) (by omega)
  refine Ret_chk hin (Ret_dec (fun g=>absurd g (by omega)) fun _=>Ret_dec (fun g=>absurd g (by omega)) fun _=>Ret_chk hin2 (Ret_dec (fun g=>absurd g (by omega)) fun _=>Ret_chk hin2 (Ret_dec (fun g=>absurd g (by omega)) fun _=>?_)))
  refine Ret_chk (by rw[Bool.and_eq_true];exact⟨decide_eq_true (by omega),rfl⟩) (Ret_chk (i64b_t (by omega) (by omega)) (Ret_chk (i64b_t (by omega) (by omega)) ?_))
  have hs:at_+s.1.getD n 0* (1-2* ((n:Int)%2))=eR s.1 (n+1):=by rw[i3,eR_step]
  have hb2:=eR_bd (L:=s.1) h5 (n+1) (by omega)
  refine Ret_chk (i64b_t (by omega) (by omega)) (Ret_chk (i64b_t (by omega) (by omega)) (Ret_chk (i64b_t (by omega) (by omega)) ?_))
  exact ih _ ⟨by simp only;omega,by simp only;omega,by simp only;rw[hs,show((n:Int)+1).toNat=n+1 by omega]⟩ (by simp only;omega)
 ·have:n=s.1.length:=by omega
  subst this
  refine Ret_dec (fun g=>absurd (i3.trans h7) g) fun _=>Ret_some rfl
theorem rings_of_ok {s:List Int×List Int} (h:RValid s):rings_of fuel s=some (s,endR s.1):=by
 obtain⟨h1,h2,h3,h4,h5,h6,h7⟩:=h
 apply Ret.eq
 unfold rings_of
 refine Ret_loop (Inv:=fun x:Int×(List Int×(List Int×List Int))=>0≤x.1∧x.1≤s.1.length∧x.2.1=s.1∧x.2.2.1=s.2∧x.2.2.2=(List.range (x.1.toNat+1)).map (eR s.1)) (m:=fun x=>((s.1.length:Int)-x.1).toNat) ?_ _ _ ⟨by simp,by simp,rfl,rfl,rfl⟩ (by simp only[fuel];omega)
 rintro ⟨i,L,K,out⟩ rec ⟨i1,i2,rfl,rfl,i3⟩ ih
 simp only at i1 i2 i3 ⊢
 obtain⟨n,rfl⟩:=Int.eq_ofNat_of_zero_le i1
 simp only[Int.toNat_natCast] at i3 ⊢
 refine Ret_dec (fun hlt=>?_) fun hge=>?_
 ·have hx:=h5 _ (getD_mem (L:=s.1) (i:=n) (by omega))
  have hb:=eR_bd (L:=s.1) h5 n (by omega)
  have hb2:=eR_bd (L:=s.1) h5 (n+1) (by omega)
  have hlen:out.length=n+1:=by rw[i3];simp
  have hg:out.getD n 0=eR s.1 n:=by rw[i3,List.getD,List.getElem?_map,List.getElem?_range (by omega)];rfl
  have hs:out.getD n 0+s.1.getD n 0* (1-2* ((n:Int)%2))=eR s.1 (n+1):=by rw[hg,eR_step]
  refine Ret_chk (inb_t (by omega) (by omega)) (Ret_chk (inb_t (by omega) (by omega)) (Ret_chk (by rw[Bool.and_eq_true];exact⟨decide_eq_true (by omega),rfl⟩) ?_))
  refine Ret_chk (i64b_t (by omega) (by omega)) (Ret_chk (i64b_t (by omega) (by omega)) (Ret_chk (i64b_t (by omega) (by omega)) (Ret_chk (i64b_t (by omega) (by omega)) (Ret_chk (lenOk_t (by omega)) (Ret_chk (i64b_t (by omega) (by omega)) ?_)))))
  refine ih _ ⟨by simp only;omega,by simp only;omega,rfl,rfl,?_⟩ (by simp only;omega)
  simp only
  rw[hs,i3,show((n:Int)+1).toNat=n+1 by omega,List.range_succ (n:=n+1),List.map_append]
  rfl
 ·exact Ret_some (by rw[i3,show n=s.1.length by omega];rfl)
theorem law22_ends_ok {s:List Int×List Int} (h:RValid s):law22_ends fuel s=some (endR s.1):=by
 obtain⟨h1,h2,h3,h4,h5,h6,h7⟩:=h
 apply Ret.eq
 unfold law22_ends
 refine Ret_loop (Inv:=fun x:List Int×Int=>0≤x.2∧x.2≤s.1.length∧x.1=(List.range (x.2.toNat+1)).map (eR s.1)) (m:=fun x=>((s.1.length:Int)-x.2).toNat) ?_ _ _ ⟨by simp,by simp,rfl⟩ (by simp only[fuel];omega)
 rintro ⟨out,i⟩ rec ⟨i1,i2,i3⟩ ih
 simp only at i1 i2 i3 ⊢
 obtain⟨n,rfl⟩:=Int.eq_ofNat_of_zero_le i1
 simp only[Int.toNat_natCast] at i3 ⊢
 refine Ret_dec (fun hlt=>?_) fun hge=>?_
 ·have hx:=h5 _ (getD_mem (L:=s.1) (i:=n) (by omega))
  have hb:=eR_bd (L:=s.1) h5 n (by omega)
  have hlen:out.length=n+1:=by rw[i3];simp
  have hg:out.getD n 0=eR s.1 n:=by rw[i3,List.getD,List.getElem?_map,List.getElem?_range (by omega)];rfl
  have nxt:∀v:Int,v=eR s.1 (n+1)→Ret (rec (out++[v],(n:Int)+1)) fun x=>x=endR s.1:=fun v hv=>by
   refine ih _ ⟨by simp only;omega,by simp only;omega,?_⟩ (by simp only;omega)
   simp only
   rw[hv,i3,show((n:Int)+1).toNat=n+1 by omega,List.range_succ (n:=n+1),List.map_append]
   rfl
  refine Ret_chk (inb_t (by omega) (by omega)) (Ret_chk (by rw[Bool.and_eq_true];exact⟨decide_eq_true (by omega),rfl⟩) ?_)
  refine Ret_dec (fun ho=>?_) fun he=>?_
  ·refine Ret_chk (i64b_t (by omega) (by omega)) (Ret_chk (inb_t (by omega) (by omega)) ?_)
   rw[hg]
   refine Ret_chk (i64b_t (by omega) (by omega)) (Ret_chk (lenOk_t (by omega)) (Ret_chk (i64b_t (by omega) (by omega)) (nxt _ ?_)))
   rw[eR_odd (by omega)];omega
  ·refine Ret_chk (inb_t (by omega) (by omega)) ?_
   rw[hg]
   refine Ret_chk (i64b_t (by omega) (by omega)) (Ret_chk (lenOk_t (by omega)) (Ret_chk (i64b_t (by omega) (by omega)) (nxt _ ?_)))
   rw[eR_even (by omega)]
 ·exact Ret_some (by rw[i3,show n=s.1.length by omega];rfl)
end X
end Go.Vm
namespace Go.Vm
namespace X
open W
end X
end Go.Vm
