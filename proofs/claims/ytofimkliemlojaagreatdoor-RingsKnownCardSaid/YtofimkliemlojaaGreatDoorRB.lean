/-
  Rings: what is shared with the piles of strips.
  Rings: crossing, by creases and by stacks.
  Rings: plain laws: the law's rings, Check, of, ends.
  Rings: plain laws: the law's rings are valid.
  Rings: plain laws: ranks, between, crosses, kind, wrong, listed, jw4.
  Rings: the law RingsValid.
  Rings: the law RingsValid.
-/
import Derived.Test.YtofimkliemlojaaGreatDoorQ7
set_option linter.unusedSimpArgs false
set_option linter.unusedVariables false
set_option linter.unusedSectionVars false
set_option linter.unnecessarySimpa false
namespace Go.Vm
namespace X
open W
def bytes (L:List Int):Prop:=∀x∈L,0≤x∧x≤255
theorem ju9 {n:Int} (h1:0≤n) (h2:n≤255):IntKind.u8.wrap n=n:=by
 simp[IntKind.wrap,IntKind.bits,IntKind.signed];omega
theorem jjo {L:List Int} {a:Int} {P:Int→Prop} (h:∀x∈L,P x) (ha:P a):∀x∈L++[a],P x:=fun x hx=>by
 rcases List.mem_append.1 hx with h1 | h1
 ·exact h x h1
 ·rw[List.mem_singleton.1 h1];exact ha
theorem jlr {L:List Int} {i k:Nat} {v:Int} (hi:i<L.length):(L.set i v).getD k 0=if k=i then v else L.getD k 0:=by
 simp only[List.getD,List.getElem?_set]
 by_cases h:i=k
 ·subst h;simp[hi]
 ·simp[h,Ne.symm h]
theorem jvd {L:List Int} {i:Nat} (h:i<L.length):L.take (i+1)=L.take i++[L.getD i 0]:=by
 rw[List.take_add_one,List.getD,List.getElem?_eq_getElem h];rfl
theorem jb9 {β:Type} {c:Bool} {x:Option β} (h:c=true):chk c x=x:=by rw[h];rfl
def frm (E:List Int) (i:Nat):Int:=min (E.getD i 0) (E.getD (i+1) 0)
def too (E:List Int) (i:Nat):Int:=max (E.getD i 0) (E.getD (i+1) 0)
def jpi (E:List Int) (at_ n:Int):Bool:=decide (frm E n.toNat≤at_)&&decide (at_<too E n.toNat)
def jhx (E p:List Int) (at_:Int):List Int:=p.filter (jpi E at_)
def In (n:Nat) (p:List Int):Prop:=∀x∈p,0≤x∧x<n
def idL (n:Nat):List Int:=(List.range n).map Int.ofNat
theorem jta (n:Nat):(idL n).length=n:=by simp[idL]
theorem jr0 (n:Nat):idL (n+1)=idL n++[(n:Int)]:=by simp[idL,List.range_succ]
theorem jhg {n:Nat} {x:Int}:x∈idL n↔0≤x∧x<n:=by
 simp only[idL,List.mem_map,List.mem_range]
 constructor
 ·rintro ⟨a,h,rfl⟩;exact⟨by simp,by simp;omega⟩
 ·intro h;exact⟨x.toNat,by omega,by simp;omega⟩
theorem j27 (n:Nat):(idL n).Nodup:=by
 unfold idL
 exact List.nodup_range.map (f:=Int.ofNat) (fun a b h h2=>h (Int.ofNat.inj h2))
def Ord (n:Nat) (p:List Int):Prop:=p.Perm (idL n)
theorem Ord.len {n:Nat} {p:List Int} (h:Ord n p):p.length=n:=by rw[h.length_eq,jta]
theorem Ord.in {n:Nat} {p:List Int} (h:Ord n p):In n p:=fun x hx=>jhg.1 (h.mem_iff.1 hx)
theorem Ord.nodup {n:Nat} {p:List Int} (h:Ord n p):p.Nodup:=h.nodup_iff.2 (j27 n)
theorem Ord.mem {n:Nat} {p:List Int} (h:Ord n p) {i:Nat} (hi:i<n):(i:Int)∈p:=h.mem_iff.2 (jhg.2 ⟨by omega,by omega⟩)
theorem kbv {n:Nat} (hn:n≤1000) {K:List Int→Option (List Int)} {Q:List Int→Prop} (hK:Ret (K (idL n)) Q):
  Ret (jav (fun rec1 (x1:((List Int)×Int))=>bif(decide (x1.2< (n:Int))) then(chk (jbm (x1.1.length+1)) (chk (jak (x1.2+1)) (rec1 ((x1.1++[x1.2]),(x1.2+1))))) else K x1.1) fuel ([],0)) Q:=by
 refine jan (Inv:=fun x:List Int×Int=>0≤x.2∧x.2≤n∧x.1=idL x.2.toNat) (m:=fun x=>((n:Int)-x.2).toNat) ?_ _ _ ⟨by simp,by simp,rfl⟩ (by simp only[fuel];omega)
 rintro ⟨out,i⟩ rec ⟨i1,i2,i3⟩ ih
 simp only at i1 i2 i3 ⊢
 obtain⟨k,rfl⟩:=Int.eq_ofNat_of_zero_le i1
 simp only[Int.toNat_natCast] at i3
 subst i3
 refine jab (fun hlt=>?_) fun hge=>?_
 ·refine jaa (ja7 (by rw[jta];omega)) (jaa (jah (by omega) (by omega)) (ih _ ⟨by simp only;omega,by simp only;omega,?_⟩ (by simp only;omega)))
  simp only
  rw[show((k:Int)+1).toNat=k+1 by omega,jr0]
 ·rw[show k=n by omega];exact hK
theorem jq0 {L:List Int} {k:Nat}:(L.drop (k+1)).take (L.length-(k+1))=L.drop (k+1):=List.take_of_length_le (by simp)
theorem j58 {y:List Int} (hy:bytes y) {n:Nat} (hn:n≤1000):Ret (jgr fuel (y,(n:Int))) fun p=>Ord n p:=by
 unfold jgr
 refine kbv (n:=n) hn (K:=fun l=>jav _ fuel (l,([],0))) ?_
 refine jan (Inv:=fun x:List Int×(List Int×Int)=>0≤x.2.2∧x.2.2≤n∧(x.1++x.2.1).Perm (idL n)∧(x.1.length:Int)=n-x.2.2) (m:=fun x=>((n:Int)-x.2.2).toNat) ?_ _ _ ⟨by simp,by simp,by simp,by simp[jta]⟩ (by simp only[fuel];omega)
 rintro ⟨left,out,i⟩ rec ⟨i1,i2,i3,i4⟩ ih
 simp only at i1 i2 i3 i4 ⊢
 have jbg:=i3.length_eq
 rw[List.length_append,jta] at jbg
 have perm:∀k:Nat,k<left.length→((left.take k++left.drop (k+1))++(out++[left.getD k 0])).Perm (idL n):=fun k hk=>by
  refine List.Perm.trans ?_ i3
  have e:left=left.take k++left.getD k 0::left.drop (k+1):=by
   rw[List.getD,List.getElem?_eq_getElem hk]
   exact(List.take_append_drop k left).symm.trans (by rw[List.drop_eq_getElem_cons hk];rfl)
  conv=>rhs;rw[e]
  simp only[List.append_assoc,List.cons_append]
  refine List.Perm.append_left _ ?_
  refine List.Perm.trans ?_ List.perm_middle
  refine List.Perm.append_left _ ?_
  exact List.perm_append_comm
 refine jab (fun hlt=>?_) fun hge=>?_
 ·have nxt:∀k:Nat,k<left.length→Ret (rec (left.take k++left.drop (k+1),(out++[left.getD k 0],i+1))) fun p=>Ord n p:=fun k hk=>
   ih _ ⟨by simp only;omega,by simp only;omega,perm k hk,by simp only[List.length_append,List.length_take,List.length_drop];omega⟩ (by simp only;omega)
  refine jab (fun hiy=>?_) fun hiy=>?_
  ·have hb:=hy _ (jau (L:=y) (i:=i.toNat) (by omega))
   generalize y.getD i.toNat 0=b at hb ⊢
   have hm1:=Int.emod_nonneg b (show((left.length:Nat):Int)≠0 by omega)
   have hm2:=Int.emod_lt_of_pos b (show 0< ((left.length:Nat):Int) by omega)
   generalize b% ((left.length:Nat):Int)=k at hm1 hm2 ⊢
   obtain⟨k,rfl⟩:=Int.eq_ofNat_of_zero_le hm1
   rw[show((k:Int)+1).toNat=k+1 by omega,jq0]
   simp only[Int.toNat_natCast]
   refine jaa (jap (by omega) (by omega)) (jaa (jah (by omega) (by omega)) (jaa (by rw[Bool.and_eq_true];exact⟨decide_eq_true (by omega),decide_eq_true (by omega)⟩) (jaa (jap (by omega) (by omega)) (jaa (ja7 (by omega)) (jaa (by simp[bnb];omega) (jaa (jah (by omega) (by omega)) (jaa (by simp[bnb];omega) (jaa ?_ (jaa (jah (by omega) (by omega)) (nxt k (by omega)))))))))))
   simp[jbm,jad]
   omega
  ·rw[show(1:Nat)=0+1 from rfl,jq0]
   refine jaa (jap (by omega) (by omega)) (jaa (ja7 (by omega)) (jaa (by simp[bnb]) (jaa (by simp[bnb];omega) (jaa ?_ (jaa (jah (by omega) (by omega)) (nxt 0 (by omega)))))))
   simp[jbm,jad]
   omega
 ·have:left=[]:=List.eq_nil_of_length_eq_zero (by omega)
  subst this
  exact jaj (by rw[List.nil_append] at i3;exact i3)
def j4f (w:List Int):Prop:=∃c:Int,0≤c∧([c, -1,c].Sublist w∨∃d:Int,0≤d∧d≠c∧[c,d,c,d].Sublist w)
def km5 (w:List Int):Prop:=∀g:Int,0≤g→g∈w→w.count g=2
def jma:List Int→List Int→Bool
 | _,[]=>true
 | o,g::L=>if g= -2 then jma o L else if g= -1 then(if o=[] then jma o L else false) else if g∉o then jma (o++[g]) L else if o.getLast?=some g then jma o.dropLast L else false
theorem j6l {x:Int} {l:List Int}:∀ {A w:List Int},x∉A→(x::l).Sublist (A++w)→(x::l).Sublist w
 | [],_,_,h=>h
 | a::A,w,hn,h=>by
   rw[List.cons_append] at h
   have hx:x≠a:=fun e=>hn (e▸List.mem_cons_self)
   cases h with
   | cons _ h=>exact j6l (fun h'=>hn (List.mem_cons_of_mem _ h')) h
   | cons_cons _ h=>exact absurd rfl hx
theorem jyd {f:Int→Bool} {l w w':List Int} (h:l.Sublist w) (hl:∀x∈l,f x=true) (hw:(w.filter f).Sublist w'):l.Sublist w':=by
 have:=h.filter f
 rw[List.filter_eq_self.2 hl] at this
 exact this.trans hw
theorem jyu {f:Int→Bool} {A B L:List Int} (hB:B.filter f=[]):((A++B++L).filter f).Sublist (A++L):=by
 rw[List.filter_append,List.filter_append,hB,List.append_nil,←List.filter_append]
 exact List.filter_sublist
theorem j1a {w w':List Int} (h:w.Sublist w'):j4f w→j4f w':=by
 rintro ⟨c,h0,h1 | ⟨d,h1,h2,h3⟩⟩
 ·exact⟨c,h0,.inl (h1.trans h)⟩
 ·exact⟨c,h0,.inr ⟨d,h1,h2,h3.trans h⟩⟩
theorem j70 {A B L:List Int} {q:Int→Bool} (hB:B.filter q=[]) (hq:∀c:Int,j4f (A++B++L)→True)
  (hc:∀c d:Int,0≤c→d≠c→(d= -1∨0≤d)→[c,d,c].Sublist (A++B++L)→q c=true)
  (hd:∀c d:Int,0≤c→0≤d→d≠c→[c,d,c,d].Sublist (A++B++L)→q d=true) (h1:q (-1)=true):j4f (A++B++L)→j4f (A++L):=by
 rintro ⟨c,h0,h | ⟨d,g1,g2,h⟩⟩
 ·refine⟨c,h0,.inl (jyd h (fun x hx=>?_) (jyu hB))⟩
  have:=hc c (-1) h0 (by omega) (.inl rfl) h
  simp only[List.mem_cons,List.not_mem_nil,or_false] at hx
  rcases hx with rfl | rfl | rfl<;>assumption
 ·refine⟨c,h0,.inr ⟨d,g1,g2,jyd h (fun x hx=>?_) (jyu hB)⟩⟩
  have k1:=hc c d h0 g2 (.inr g1) (List.Sublist.trans (by simp) h)
  have k2:=hd c d h0 g1 g2 h
  simp only[List.mem_cons,List.not_mem_nil,or_false] at hx
  rcases hx with rfl | rfl | rfl | rfl<;>assumption
theorem kiv {A L:List Int}:j4f (A++[-2]++L)↔j4f (A++L):=by
 refine⟨j70 (q:=fun x=>decide (x≠ -2)) (by simp) (fun _ _=>trivial) (fun c d h _ _ _=>by simp;omega) (fun c d _ h _ _=>by simp;omega) (by simp),j1a ?_⟩
 exact List.Sublist.append (List.sublist_append_left A [-2]) (List.Sublist.refl L)
theorem kfz {A L:List Int} {g d:Int} (hA:g∉A) (hL:g∉L) (hd:d≠g):¬ [g,d,g].Sublist (A++[g,g]++L):=fun h=>by
 rw[List.append_assoc] at h
 have h:=j6l hA h
 cases h with
 | cons _ h=>
   cases h with
   | cons _ h=>exact hL (h.subset (by simp))
   | cons_cons _ h=>exact hL (h.subset (by simp))
 | cons_cons _ h=>
   cases h with
   | cons _ h=>exact hL (h.subset (by simp))
   | cons_cons _ h=>exact hd rfl
theorem kfh {A L:List Int} {g:Int} (hg:0≤g) (hA:g∉A) (hL:g∉L):j4f (A++[g,g]++L)↔j4f (A++L):=by
 refine⟨j70 (q:=fun x=>decide (x≠g)) (by simp) (fun _ _=>trivial) (fun c d h h2 _ hs=>?_) (fun c d h h1 h2 hs=>?_) (by simp;omega),j1a ?_⟩
 ·rw[decide_eq_true_eq]
  rintro rfl
  exact kfz hA hL h2 hs
 ·rw[decide_eq_true_eq]
  rintro rfl
  exact kfz hA hL (d:=c) (fun e=>h2 e.symm) (List.Sublist.trans (by simp) hs)
 ·exact List.Sublist.append (List.sublist_append_left A [g,g]) (List.Sublist.refl L)
theorem jnl:∀(L o:List Int),o.Nodup→(∀x∈o,0≤x)→(∀x∈L, -2≤x)→km5 (o++L)→(jma o L=true↔¬j4f (o++L))
 | [],o,hn,ho,_,ht=>by
   match o,hn,ho,ht with
   | [],_,_,_=>
     refine⟨fun _=>?_,fun _=>rfl⟩
     rintro ⟨c,_,h | ⟨d,_,_,h⟩⟩<;>simp at h
   | a::o,hn,ho,ht=>
     have:=ht a (ho a List.mem_cons_self) (by simp)
     rw[List.append_nil,List.count_cons_self,List.count_eq_zero.2 (List.nodup_cons.1 hn).1] at this
     omega
 | g::L,o,hn,ho,hl,ht=>by
   have hl':∀x∈L, -2≤x:=fun x hx=>hl x (List.mem_cons_of_mem _ hx)
   unfold jma
   by_cases e2:g= -2
   ·subst e2
    rw[if_pos rfl,jnl L o hn ho hl' (fun x h0 hx=>?_),←kiv,List.append_assoc]
    ·rfl
    ·have:=ht x h0 (by simp only[List.mem_append,List.mem_cons] at hx ⊢;exact hx.elim .inl (fun h=>.inr (.inr h)))
     rw[List.count_append,List.count_cons_of_ne (by omega)] at this
     rw[List.count_append];exact this
   rw[if_neg e2]
   by_cases e1:g= -1
   ·subst e1
    rw[if_pos rfl]
    by_cases eo:o=[]
    ·subst eo
     rw[if_pos rfl,jnl L [] hn ho hl' (fun x h0 hx=>?_)]
     ·rw[List.nil_append,List.nil_append]
      refine not_congr ⟨j1a (by simp),?_⟩
      rintro ⟨c,h0,h | ⟨d,h1,h2,h⟩⟩
      ·cases h with
       | cons _ h=>exact⟨c,h0,.inl h⟩
       | cons_cons _ h=>omega
      ·cases h with
       | cons _ h=>exact⟨c,h0,.inr ⟨d,h1,h2,h⟩⟩
       | cons_cons _ h=>omega
     ·have:=ht x h0 (by simp only[List.mem_append,List.mem_cons] at hx ⊢;exact hx.elim .inl (fun h=>.inr (.inr h)))
      rw[List.nil_append,List.count_cons_of_ne (by omega)] at this
      exact this
    ·rw[if_neg eo]
     refine⟨fun h=>(by cases h),fun h=>absurd ?_ h⟩
     match o,hn,ho,ht,eo with
     | a::o,hn,ho,ht,_=>
       have ha:=ho a List.mem_cons_self
       have:=ht a ha (by simp)
       rw[List.cons_append,List.count_cons_self,List.count_append,List.count_eq_zero.2 (List.nodup_cons.1 hn).1,List.count_cons_of_ne (by omega)] at this
       have hm:a∈L:=List.count_pos_iff.1 (by omega)
       refine⟨a,ha,.inl ?_⟩
       rw[List.cons_append]
       refine List.Sublist.cons_cons _ (List.Sublist.trans (List.Sublist.cons_cons _ (List.singleton_sublist.2 hm)) (List.sublist_append_right _ _))
   rw[if_neg e1]
   have hg:0≤g:=by have:=hl g List.mem_cons_self;omega
   have hgt:=ht g hg (by simp)
   rw[List.count_append,List.count_cons_self] at hgt
   by_cases em:g∈o
   ·rw[if_neg (fun h=>h em)]
    have hco:o.count g=1:=by
     have h1:=List.count_pos_iff.2 em
     have h2:=List.nodup_iff_count.1 hn g
     omega
    have hgL:g∉L:=List.count_eq_zero.1 (by omega)
    by_cases el:o.getLast?=some g
    ·rw[if_pos el]
     obtain⟨A,rfl⟩:∃A,o=A++[g]:=List.getLast?_eq_some_iff.1 el
     have hgA:g∉A:=fun h=>by
      have:=(List.nodup_append.1 hn).2.2 g h g (by simp)
      exact this rfl
     rw[List.dropLast_concat,jnl L A (List.nodup_append.1 hn).1 (fun x hx=>ho x (List.mem_append.2 (.inl hx))) hl' (fun x h0 hx=>?_)]
     ·rw[←kfh hg hgA hgL]
      simp
     ·have hxg:x≠g:=fun e=>by
       rcases List.mem_append.1 hx with h | h
       ·exact hgA (e▸h)
       ·exact hgL (e▸h)
      have:=ht x h0 (by simp only[List.mem_append,List.mem_cons] at hx ⊢;exact hx.elim (fun h=>.inl (.inl h)) (fun h=>.inr (.inr h)))
      rw[List.count_append,List.count_append,List.count_cons_of_ne (fun e=>hxg e.symm),List.count_cons_of_ne (fun e=>hxg e.symm),List.count_nil] at this
      rw[List.count_append]
      omega
    ·rw[if_neg el]
     refine⟨fun h=>(by cases h),fun h=>absurd ?_ h⟩
     obtain⟨A,B,rfl⟩:=List.append_of_mem em
     match B,el,hn,ho,ht,hco with
     | [],el,_,_,_,_=>exact absurd (by simp) el
     | d::B,el,hn,ho,ht,hco=>
       have hd0:=ho d (by simp)
       have hn2:=List.nodup_append.1 hn
       have hdg:d≠g:=fun e=>by
        have:=(List.nodup_cons.1 hn2.2.1).1
        exact this (e▸List.mem_cons_self)
       have hdo:(A++g::d::B).count d≤1:=List.nodup_iff_count.1 hn d
       have hdt:=ht d hd0 (by simp)
       rw[List.count_append,List.count_cons_of_ne (fun e=>hdg e.symm)] at hdt
       have hdL:d∈L:=List.count_pos_iff.1 (by omega)
       refine⟨g,hg,.inr ⟨d,hd0,hdg,?_⟩⟩
       have:[g,d,g,d].Sublist ((g::d::B)++(g::L)):=by
        rw[List.cons_append,List.cons_append]
        refine List.Sublist.cons_cons _ (List.Sublist.cons_cons _ (List.Sublist.trans (List.Sublist.cons_cons _ (List.singleton_sublist.2 hdL)) (List.sublist_append_right _ _)))
       rw[List.append_assoc]
       exact this.trans (List.sublist_append_right _ _)
   ·rw[if_pos em]
    have e:o++g::L=(o++[g])++L:=by simp
    rw[e,jnl L (o++[g]) (List.nodup_append.2 ⟨hn,by simp,fun a ha b hb e=>em (by simp at hb;rw[←hb,←e];exact ha)⟩) (fun x hx=>?_) hl' (by rw[←e];exact ht)]
    rcases List.mem_append.1 hx with h | h
    ·exact ho x h
    ·simp at h;omega
def ab (a c:Int) (O:List Int):Nat:=(O.filter fun x=>decide (x=a)||decide (x=c)).length
theorem km4 {a c:Int}:∀ {O:List Int},O.Nodup→ab a c O=if a=c then(if a∈O then 1 else 0) else(if a∈O then 1 else 0)+ (if c∈O then 1 else 0)
 | [],_=>by simp[ab]
 | x::O,h=>by
   obtain⟨h1,h2⟩:=List.nodup_cons.1 h
   have ih:=km4 (a:=a) (c:=c) h2
   unfold ab at ih ⊢
   rw[List.filter_cons]
   simp only[List.mem_cons]
   by_cases e1:x=a
   ·subst e1
    have:x∉O:=h1
    simp only[decide_true,Bool.true_or,if_true,List.length_cons,true_or] at ih ⊢
    rw[ih]
    by_cases e2:x=c
    ·subst e2;simp[h1]
    ·have e3:¬c=x:=fun h=>e2 h.symm
     simp[h1,e2,e3];omega
   ·have e1':¬a=x:=fun h=>e1 h.symm
    by_cases e2:x=c
    ·subst e2
     simp[h1,e1,e1'] at ih ⊢
     rw[ih]
    ·have e2':¬c=x:=fun h=>e2 h.symm
     simp only[e1,e2,e1',e2',decide_false,Bool.or_self,false_or,if_false,Bool.false_eq_true] at ih ⊢
     exact ih
theorem jiu {E p:List Int} {v x:Int}:x∈jhx E p v↔x∈p∧frm E x.toNat≤v∧v<too E x.toNat:=by
 simp[jhx,jpi,List.mem_filter]
theorem j48 {E p:List Int} {v:Int} (h:p.Nodup):(jhx E p v).Nodup:=h.filter _
theorem jt4 {o:List Int} {g:Int} (h:∀k:Nat,k<o.length→o.getD k 0≠g):g∉o:=fun hm=>by
 obtain⟨k,hk,e⟩:=List.mem_iff_getElem.1 hm
 exact h k hk (by rw[List.getD,List.getElem?_eq_getElem hk];exact e)
def Rk (p r:List Int):Prop:=∀i:Nat,i<p.length→r.getD (p.getD i 0).toNat 0=i
theorem ke1 {p:List Int} (h:p.Nodup) {i j:Nat} (hi:i<p.length) (hj:j<p.length) (e:p.getD i 0=p.getD j 0):i=j:=by
 rw[List.getD,List.getD,List.getElem?_eq_getElem hi,List.getElem?_eq_getElem hj] at e
 exact(List.getElem_inj h).1 e
theorem j6p {p r:List Int} {i:Nat} (hd:p.Nodup) {n:Nat} (hp:In n p) (hr:n≤r.length) (hi:i<p.length) (h:∀k:Nat,k<i→r.getD (p.getD k 0).toNat 0=k):
  ∀k:Nat,k<i+1→(r.set (p.getD i 0).toNat (i:Int)).getD (p.getD k 0).toNat 0=k:=fun k hk=>by
 have b1:=hp _ (jau (L:=p) (i:=i) hi)
 have b2:=hp _ (jau (L:=p) (i:=k) (by omega))
 rw[jlr (by omega)]
 by_cases e:k=i
 ·subst e;rw[if_pos rfl]
 ·rw[if_neg (fun e2=>e (ke1 hd (by omega) hi (by omega))),h k (by omega)]
theorem jd3 {f:Int→Int}:∀ {p l:List Int},p.Pairwise (fun a b=>f a<f b)→l.Pairwise (fun a b=>f a<f b)→(∀x∈l,x∈p)→l.Sublist p
 | _,[],_,_,_=>List.nil_sublist _
 | [],a::l,_,_,h=>absurd (h a List.mem_cons_self) (by simp)
 | a::p,b::l,hp,hl,h=>by
   obtain⟨p1,p2⟩:=List.pairwise_cons.1 hp
   obtain⟨l1,l2⟩:=List.pairwise_cons.1 hl
   by_cases e:b=a
   ·subst e
    refine List.Sublist.cons_cons _ (jd3 p2 l2 fun x hx=>?_)
    rcases List.mem_cons.1 (h x (List.mem_cons_of_mem _ hx)) with rfl | h'
    ·have:=l1 _ hx;omega
    ·exact h'
   ·have hb:b∈p:=(List.mem_cons.1 (h b List.mem_cons_self)).resolve_left e
    refine List.Sublist.cons _ (jd3 p2 hl fun x hx=>?_)
    rcases List.mem_cons.1 (h x hx) with rfl | h'
    ·exfalso
     have k1:=p1 _ hb
     rcases List.mem_cons.1 hx with rfl | hx
     ·exact e rfl
     ·have:=l1 _ hx;omega
    ·exact h'
theorem kpc {f:Int→Int} {a b c:Int}:∀ {l:List Int},[a,b,c]=l.map f→∃x y z,l=[x,y,z]∧a=f x∧b=f y∧c=f z
 | [],e=>by simp at e
 | [_],e=>by simp at e
 | [_,_],e=>by simp at e
 | [x,y,z],e=>by simp at e;exact⟨x,y,z,rfl,e.1,e.2.1,e.2.2⟩
 | _::_::_::_::_,e=>by simp at e
theorem kpb {f:Int→Int} {a b c d:Int}:∀ {l:List Int},[a,b,c,d]=l.map f→∃x y z w,l=[x,y,z,w]∧a=f x∧b=f y∧c=f z∧d=f w
 | [],e=>by simp at e
 | [_],e=>by simp at e
 | [_,_],e=>by simp at e
 | [_,_,_],e=>by simp at e
 | [x,y,z,w],e=>by simp at e;exact⟨x,y,z,w,rfl,e.1,e.2.1,e.2.2.1,e.2.2.2⟩
 | _::_::_::_::_::_,e=>by simp at e
theorem koq {a b c d:Int} (d1:a<c∨c<a) (d2:a<d∨d<a) (d3:b<c∨c<b) (d4:b<d∨d<b) (d5:a<b∨b<a) (d6:c<d∨d<c) (h:¬((min a b<c∧c<max a b)↔(min a b<d∧d<max a b))):
  (a<c∧c<b∧b<d)∨(a<d∧d<b∧b<c)∨(b<c∧c<a∧a<d)∨(b<d∧d<a∧a<c)∨(c<a∧a<d∧d<b)∨(c<b∧b<d∧d<a)∨(d<a∧a<c∧c<b)∨(d<b∧b<c∧c<a):=by
 by_cases hc:min a b<c∧c<max a b<;>by_cases hd:min a b<d∧d<max a b
 ·exact absurd ⟨fun _=>hd,fun _=>hc⟩ h
 ·clear h d6
  rcases d5 with d5 | d5
  ·have k1:a<c∧c<b:=by omega
   have k2:d<a∨b<d:=by omega
   clear hc hd d1 d2 d3 d4
   rcases k2 with k2 | k2
   ·exact(.inr (.inr (.inr (.inr (.inr (.inr (.inl ⟨by omega,by omega,by omega⟩)))))))
   ·exact(.inl ⟨by omega,by omega,by omega⟩)
  ·have k1:b<c∧c<a:=by omega
   have k2:d<b∨a<d:=by omega
   clear hc hd d1 d2 d3 d4
   rcases k2 with k2 | k2
   ·exact(.inr (.inr (.inr (.inr (.inr (.inr (.inr ⟨by omega,by omega,by omega⟩)))))))
   ·exact(.inr (.inr (.inl ⟨by omega,by omega,by omega⟩)))
 ·clear h d6
  rcases d5 with d5 | d5
  ·have k1:a<d∧d<b:=by omega
   have k2:c<a∨b<c:=by omega
   clear hc hd d1 d2 d3 d4
   rcases k2 with k2 | k2
   ·exact(.inr (.inr (.inr (.inr (.inl ⟨by omega,by omega,by omega⟩)))))
   ·exact(.inr (.inl ⟨by omega,by omega,by omega⟩))
  ·have k1:b<d∧d<a:=by omega
   have k2:c<b∨a<c:=by omega
   clear hc hd d1 d2 d3 d4
   rcases k2 with k2 | k2
   ·exact(.inr (.inr (.inr (.inr (.inr (.inl ⟨by omega,by omega,by omega⟩))))))
   ·exact(.inr (.inr (.inr (.inl ⟨by omega,by omega,by omega⟩))))
 ·exact absurd ⟨fun h=>absurd h hc,fun h=>absurd h hd⟩ h
theorem j1i {ι σ β:Type} {done:σ→Option β} {step:ι→(σ→Option β)→σ→Option β} {Q:β→Prop} (Inv:List ι→σ→Prop) (h0:∀x,Inv [] x→Ret (done x) Q)
  (h1:∀y l rec x,Inv (y::l) x→(∀x',Inv l x'→Ret (rec x') Q)→Ret (step y rec x) Q):∀l x,Inv l x→Ret (j21 done step l x) Q
 | [],x,h=>h0 x h
 | y::l,x,h=>h1 y l _ x h fun x' h'=>j1i Inv h0 h1 l x' h'
theorem jli:∀ {l p:List Int},l.Nodup→(∀x∈l,x∈p)→∃q,p.Perm (l++q)
 | [],p,_,_=>⟨p,List.Perm.refl _⟩
 | a::l,p,hn,h=>by
   obtain⟨h1,h2⟩:=List.nodup_cons.1 hn
   have ha:=h a List.mem_cons_self
   obtain⟨q,hq⟩:=jli (l:=l) (p:=p.erase a) h2 fun x hx=>(List.mem_erase_of_ne (fun e:x=a=>h1 (by rw[←e];exact hx))).2 (h x (List.mem_cons_of_mem _ hx))
   exact⟨q,(List.perm_cons_erase ha).trans (hq.cons a)⟩
theorem j65 {n:Nat} {p:List Int} (hl:p.length=n) (h:∀i:Nat,i<n→(i:Int)∈p):Ord n p:=by
 obtain⟨q,hq⟩:=jli (j27 n) (p:=p) fun x hx=>by
  have:=jhg.1 hx
  have:=h x.toNat (by omega)
  rwa[show((x.toNat:Nat):Int)=x by omega] at this
 have:=hq.length_eq
 rw[List.length_append,jta] at this
 have:q=[]:=List.eq_nil_of_length_eq_zero (by omega)
 subst this
 rw[List.append_nil] at hq
 exact hq
def rkF (p:List Int) (x:Int):Int:=(p.idxOf x:Nat)
theorem jvu {p:List Int} (h:p.Nodup) {i:Nat} (hi:i<p.length):rkF p (p.getD i 0)=i:=by
 rw[List.getD,List.getElem?_eq_getElem hi,Option.getD_some,rkF,h.idxOf_getElem i hi]
theorem jjs {p:List Int} {x:Int} (h:x∈p):(rkF p x).toNat<p.length∧p.getD (rkF p x).toNat 0=x∧0≤rkF p x:=by
 have h1:=List.idxOf_lt_length_of_mem h
 unfold rkF
 refine⟨by omega,?_,by omega⟩
 rw[Int.toNat_natCast,List.getD,List.getElem?_eq_getElem h1,Option.getD_some,List.getElem_idxOf h1]
theorem j6w {p:List Int} (h:p.Nodup):p.Pairwise fun a b=>rkF p a<rkF p b:=by
 rw[List.pairwise_iff_getElem]
 intro i j hi hj hij
 simp only[rkF,h.idxOf_getElem]
 omega
theorem Rk.rk {p r:List Int} (h:Rk p r) (hn:p.Nodup) {x:Int} (hx:x∈p):r.getD x.toNat 0=rkF p x:=by
 obtain⟨h1,h2,h3⟩:=jjs hx
 have:=h _ h1
 rw[h2] at this
 rw[this];omega
theorem jim {p:List Int} {x y:Int} (hx:x∈p) (hy:y∈p) (h:rkF p x=rkF p y):x=y:=by
 rw[←(jjs hx).2.1,h,(jjs hy).2.1]
theorem Ord.memI {n:Nat} {p:List Int} (h:Ord n p) {x:Int} (h0:0≤x) (h1:x<n):x∈p:=h.mem_iff.2 (jhg.2 ⟨h0,h1⟩)
theorem Rk.eqF {p r:List Int} {n:Nat} (h:Rk p r) (hp:Ord n p):∀x:Int,0≤x→x<n→r.getD x.toNat 0=rkF p x:=fun x h0 h1=>h.rk hp.nodup (hp.memI h0 h1)
end X
end Go.Vm
namespace Go.Vm
namespace X
open W
structure REnds (E:List Int) (n:Nat):Prop where
 len:E.length=n+1
 two:2≤n
 even:n%2=0
 closed:E.getD n 0=E.getD 0 0
 up:∀i:Nat,i<n→i%2=0→E.getD i 0<E.getD (i+1) 0
 down:∀i:Nat,i<n→i%2=1→E.getD (i+1) 0<E.getD i 0
def sc (n:Nat) (i:Int):Int:=if i+1<n then i+1 else 0
def jt6 (E:List Int) (n:Nat) (t x:Int):Int:=
 if E.getD (x.toNat+1) 0=t then x else if E.getD x.toNat 0=t then(if x=0 then(n:Int)-1 else x-1) else -1
section
variable {E:List Int} {n:Nat} (h:REnds E n)
include h
theorem REnds.ne {i:Nat} (hi:i<n):E.getD i 0≠E.getD (i+1) 0:=by
 rcases Nat.mod_two_eq_zero_or_one i with e | e
 ·have:=h.up i hi e;omega
 ·have:=h.down i hi e;omega
theorem REnds.at_sc {i:Int} (h0:0≤i) (h1:i<n):E.getD (sc n i).toNat 0=E.getD (i.toNat+1) 0:=by
 unfold sc
 split
 ·rw[show(i+1).toNat=i.toNat+1 by omega]
 ·rw[show i.toNat+1=n by omega,h.closed];rfl
theorem REnds.sc_lt {i:Int} (h0:0≤i) (h1:i<n):0≤sc n i∧sc n i<n∧sc n i≠i∧(sc n i).toNat%2≠i.toNat%2:=by
 have:=h.two;have:=h.even
 unfold sc
 split<;>omega
omit h in
theorem kj0 {i j:Int} (h0:0≤i) (h1:i<n) (h2:0≤j) (h3:j<n) (e:sc n i=sc n j):i=j:=by
 unfold sc at e
 split at e<;>split at e<;>omega
theorem jgw {t x g:Int} (hx:0≤x∧x<n) (hg:0≤g):jt6 E n t x=g↔(g<n∧E.getD (g.toNat+1) 0=t∧(x=g∨x=sc n g)):=by
 have hn:=h.ne (i:=x.toNat) (by omega)
 have h2:=h.two
 constructor
 ·intro e
  unfold jt6 at e
  split at e
  ·subst e;exact⟨hx.2,by assumption,.inl rfl⟩
  ·split at e
   ·rename_i e1
    split at e
    ·rename_i x0
     subst x0
     subst e
     refine⟨by omega,?_,.inr ?_⟩
     ·rw[show((n:Int)-1).toNat+1=n by omega,h.closed];exact e1
     ·unfold sc;rw[if_neg (by omega)]
    ·refine⟨by omega,?_,.inr ?_⟩
     ·rw[show g.toNat+1=x.toNat by omega];exact e1
     ·unfold sc;rw[if_pos (by omega)];omega
   ·omega
 ·rintro ⟨h1,ht,rfl | e⟩
  ·unfold jt6;rw[if_pos ht]
  ·have e1:=h.at_sc hg h1
   rw[←e,ht] at e1
   unfold jt6
   rw[if_neg (by rw[←e1];exact fun h=>hn h.symm),if_pos e1]
   unfold sc at e
   split at e
   ·rw[if_neg (by omega)];omega
   ·rw[if_pos e];omega
omit h in
theorem j7g {t x:Int} (hx:0≤x) (hx':x<n):jt6 E n t x= -1↔(E.getD x.toNat 0≠t∧E.getD (x.toNat+1) 0≠t):=by
 unfold jt6
 constructor
 ·intro e
  split at e
  ·omega
  ·split at e
   ·split at e<;>omega
   ·exact⟨by assumption,by assumption⟩
 ·rintro ⟨h1,h2⟩
  rw[if_neg h2,if_neg h1]
omit h in
theorem kbw {t x:Int} (hx:0≤x) (hx':x<n): -1≤jt6 E n t x:=by
 unfold jt6
 split
 ·omega
 ·split
  ·split<;>omega
  ·omega
end
def jk8 (n:Nat) (f:Int→Int) (i x:Int):Prop:=min (f i) (f (sc n i))<f x∧f x<max (f i) (f (sc n i))
def jdz (E:List Int) (n:Nat) (f:Int→Int):Prop:=∃i:Int,0≤i∧i<n∧((∃j:Int,0≤j∧j<n∧frm E j.toNat<E.getD (i.toNat+1) 0∧E.getD (i.toNat+1) 0<too E j.toNat∧jk8 n f i j)∨
 ∃j:Int,0≤j∧j<n∧j≠i∧E.getD (j.toNat+1) 0=E.getD (i.toNat+1) 0∧(E.getD (i.toNat+1) 0<E.getD j.toNat 0↔E.getD (i.toNat+1) 0<E.getD i.toNat 0)∧¬(jk8 n f i j↔jk8 n f i (sc n j)))
def j14 (E p:List Int) (n:Nat) (t u:Int):List Int:=(jhx E p u).map (jt6 E n t)
section
variable {E:List Int} {n:Nat} (h:REnds E n) {p:List Int} (hp:Ord n p) {t u:Int} (hu:u=t-1∨u=t)
include h hp hu
omit h hu in
theorem kgu:∀x∈j14 E p n t u, -2≤x:=fun x hx=>by
 obtain⟨y,hy,rfl⟩:=List.mem_map.1 hx
 have:=hp.in y (jiu.1 hy).1
 have:=kbw (E:=E) (t:=t) this.1 this.2
 omega
theorem jsh {g:Int} (hg:0≤g) (h1:g<n) (ht:E.getD (g.toNat+1) 0=t):(g∈jhx E p u↔sc n g∈jhx E p u)∧(g∈jhx E p u↔(t<E.getD g.toNat 0↔u=t)):=by
 obtain⟨c0,c1,_,c3⟩:=h.sc_lt hg h1
 have ea:=h.at_sc hg h1
 have m1:g∈p:=hp.mem_iff.2 (jhg.2 ⟨hg,by omega⟩)
 have m2:sc n g∈p:=hp.mem_iff.2 (jhg.2 ⟨by omega,by omega⟩)
 simp only[jiu,m1,m2,true_and]
 unfold frm too
 rw[ea,ht]
 have k1:=h.up g.toNat (by omega);have k2:=h.down g.toNat (by omega)
 have k3:=h.up (sc n g).toNat (by omega);have k4:=h.down (sc n g).toNat (by omega)
 rw[ht] at k1 k2
 rw[ea,ht] at k3 k4
 rcases Nat.mod_two_eq_zero_or_one g.toNat with e | e
 ·have k1:=k1 e
  have k4:=k4 (by omega)
  clear k2 k3
  rcases hu with rfl | rfl<;>constructor<;>constructor<;>intro h'<;>(try constructor)<;>omega
 ·have k2:=k2 e
  have k3:=k3 (by omega)
  clear k1 k4
  rcases hu with rfl | rfl<;>constructor<;>constructor<;>intro h'<;>(try constructor)<;>omega
theorem j8o:km5 (j14 E p n t u):=fun g hg hm=>by
 obtain⟨y,hy,e⟩:=List.mem_map.1 hm
 have hyi:=hp.in y (jiu.1 hy).1
 obtain⟨h1,h2,h3⟩:=(jgw h hyi hg).1 e
 obtain⟨b1,b2⟩:=jsh h hp hu hg h1 h2
 obtain⟨_,_,hne,_⟩:=h.sc_lt hg h1
 have m1:g∈jhx E p u:=by
  rcases h3 with rfl | rfl
  ·exact hy
  ·exact b1.2 hy
 have m2:=b1.1 m1
 have hnd:(jhx E p u).Nodup:=j48 hp.nodup
 have e2:=km4 (a:=g) (c:=sc n g) hnd
 rw[if_neg (by omega),if_pos m1,if_pos m2] at e2
 unfold j14
 rw[List.count_eq_countP,List.countP_map,List.countP_eq_length_filter]
 unfold ab at e2
 show _=1+1
 rw[←e2]
 congr 1
 refine List.filter_congr fun x hx=>?_
 have hxi:=hp.in x (jiu.1 hx).1
 have:=jgw h (t:=t) hxi hg
 simp only[Function.comp]
 rw[Bool.eq_iff_iff]
 simp only[beq_iff_eq,Bool.or_eq_true,decide_eq_true_eq]
 rw[this]
 exact⟨fun h=>h.2.2,fun h'=>⟨h1,h2,h'⟩⟩
theorem j3f:jma [] (j14 E p n t u)=true↔¬j4f (j14 E p n t u):=by
 have:=jnl (j14 E p n t u) [] List.nodup_nil (by simp) (kgu hp) (by rw[List.nil_append];exact j8o h hp hu)
 rwa[List.nil_append] at this
variable {f:Int→Int} (hf:p.Pairwise fun a b=>f a<f b)
include hf
theorem j0r:j4f (j14 E p n t u)→jdz E n f:=by
 have hov:(jhx E p u).Sublist p:=List.filter_sublist
 have inn:∀x∈jhx E p u,0≤x∧x<n:=fun x hx=>hp.in x (jiu.1 hx).1
 rintro ⟨c,hc,hs | ⟨d,hd,hdc,hs⟩⟩
 ·obtain⟨l',hl,e⟩:=List.sublist_map_iff.1 hs
  obtain⟨x,z,y,rfl,e1,e2,e3⟩:=kpc e
  have pw:=(hf.sublist (hl.trans hov))
  simp only[List.pairwise_cons,List.mem_cons,List.not_mem_nil,or_false,forall_eq_or_imp,forall_eq] at pw
  have mx:=hl.subset (show x∈[x,z,y] by simp)
  have mz:=hl.subset (show z∈[x,z,y] by simp)
  have my:=hl.subset (show y∈[x,z,y] by simp)
  have ix:=inn x mx
  have iz:=inn z mz
  have iy:=inn y my
  obtain⟨g1,g2,g3⟩:=(jgw h ix hc).1 e1.symm
  obtain⟨_,_,g4⟩:=(jgw h iy hc).1 e3.symm
  obtain⟨n1,n2⟩:=(j7g iz.1 iz.2).1 e2.symm
  have oz:=(jiu.1 mz).2
  have xy:x≠y:=fun e=>by subst e;omega
  refine⟨c,hc,g1,.inl ⟨z,iz.1,iz.2,?_,?_,?_⟩⟩
  ·rw[g2];unfold frm too at *;omega
  ·rw[g2];unfold frm too at *;omega
  ·unfold jk8
   rcases g3 with rfl | rfl<;>rcases g4 with rfl | rfl
   ·exact absurd rfl xy
   ·omega
   ·omega
   ·exact absurd rfl xy
 ·obtain⟨l',hl,e⟩:=List.sublist_map_iff.1 hs
  obtain⟨x,v,y,w,rfl,e1,e2,e3,e4⟩:=kpb e
  have pw:=(hf.sublist (hl.trans hov))
  simp only[List.pairwise_cons,List.mem_cons,List.not_mem_nil,or_false,forall_eq_or_imp,forall_eq] at pw
  have mx:=hl.subset (show x∈[x,v,y,w] by simp)
  have mv:=hl.subset (show v∈[x,v,y,w] by simp)
  have my:=hl.subset (show y∈[x,v,y,w] by simp)
  have mw:=hl.subset (show w∈[x,v,y,w] by simp)
  obtain⟨g1,g2,g3⟩:=(jgw h (inn x mx) hc).1 e1.symm
  obtain⟨_,_,g4⟩:=(jgw h (inn y my) hc).1 e3.symm
  obtain⟨k1,k2,k3⟩:=(jgw h (inn v mv) hd).1 e2.symm
  obtain⟨_,_,k4⟩:=(jgw h (inn w mw) hd).1 e4.symm
  have xy:x≠y:=fun e=>by subst e;omega
  have vw:v≠w:=fun e=>by subst e;omega
  obtain⟨b1,b2⟩:=jsh h hp hu hc g1 g2
  obtain⟨b3,b4⟩:=jsh h hp hu hd k1 k2
  have mc:c∈jhx E p u:=by
   rcases g3 with rfl | rfl
   ·exact mx
   ·exact b1.2 mx
  have md:d∈jhx E p u:=by
   rcases k3 with rfl | rfl
   ·exact mv
   ·exact b3.2 mv
  have q1:=b2.1 mc
  have q2:=b4.1 md
  refine⟨c,hc,g1,.inr ⟨d,hd,k1,hdc,by rw[g2,k2],by rw[g2,q1,q2],?_⟩⟩
  unfold jk8
  rcases g3 with rfl | rfl<;>rcases g4 with rfl | rfl<;>rcases k3 with rfl | rfl<;>rcases k4 with rfl | rfl<;>first | exact absurd rfl xy | exact absurd rfl vw | omega
end
set_option maxHeartbeats 1000000 in
theorem j1b {E:List Int} {n:Nat} (h:REnds E n) {p:List Int} (hp:Ord n p) {f:Int→Int} (hf:p.Pairwise fun a b=>f a<f b) (hc:jdz E n f):
  ∃i:Nat,i<n∧∃u,(u=E.getD (i+1) 0-1∨u=E.getD (i+1) 0)∧j4f (j14 E p n (E.getD (i+1) 0) u):=by
 have inj:∀x y:Int,0≤x→x<n→0≤y→y<n→x≠y→f x<f y∨f y<f x:=fun x y hx hx' hy hy' hxy=>by
  have mx:x∈p:=hp.mem_iff.2 (jhg.2 ⟨hx,hx'⟩)
  have my:y∈p:=hp.mem_iff.2 (jhg.2 ⟨hy,hy'⟩)
  obtain⟨i,hi,rfl⟩:=List.mem_iff_getElem.1 mx
  obtain⟨j,hj,rfl⟩:=List.mem_iff_getElem.1 my
  have:=List.pairwise_iff_getElem.1 hf
  rcases Nat.lt_trichotomy i j with e | e | e
  ·exact .inl (this i j hi hj e)
  ·subst e;exact absurd rfl hxy
  ·exact .inr (this j i hj hi e)
 obtain⟨i,hi0,hi1,hh⟩:=hc
 have ei:(i.toNat:Int)=i:=by omega
 refine⟨i.toNat,by omega,?_⟩
 obtain⟨si0,si1,si2,_⟩:=h.sc_lt hi0 hi1
 have eai:=h.at_sc hi0 hi1
 generalize ht:E.getD (i.toNat+1) 0=t at *
 have hov:∀u,(jhx E p u).Pairwise (fun a b=>f a<f b):=fun u=>hf.sublist List.filter_sublist
 have l1:∀x:Int,x=i∨x=sc n i→jt6 E n t x=i:=fun x hx=>(jgw h (by rcases hx with rfl | rfl<;>omega) hi0).2 ⟨hi1,ht,hx⟩
 refine⟨if t<E.getD i.toNat 0 then t else t-1,by split<;>omega,?_⟩
 generalize hu:(if t<E.getD i.toNat 0 then t else t-1)=u
 have hu':u=t-1∨u=t:=by rw[←hu];split<;>omega
 have hut:u=t↔t<E.getD i.toNat 0:=by rw[←hu];split<;>omega
 obtain⟨b1,b2⟩:=jsh h hp hu' hi0 hi1 ht
 have mi:i∈jhx E p u:=b2.2 hut.symm
 have mi1:=b1.1 mi
 rcases hh with⟨j,j0,j1,j2,j3,j4⟩ | ⟨j,j0,j1,j2,j3,j4,j5⟩
 ·have mj:j∈jhx E p u:=jiu.2 ⟨hp.mem_iff.2 (jhg.2 ⟨j0,j1⟩),by omega,by omega⟩
  have lj:jt6 E n t j= -1:=(j7g j0 j1).2 (by unfold frm too at *;omega)
  have key:∀x y,(x=i∧y=sc n i)∨(x=sc n i∧y=i)→f x<f j→f j<f y→j4f (j14 E p n t u):=fun x y hxy g1 g2=>by
   refine⟨i,hi0,.inl ?_⟩
   have mx:x∈jhx E p u:=by rcases hxy with⟨rfl,_⟩ | ⟨rfl,_⟩<;>assumption
   have my:y∈jhx E p u:=by rcases hxy with⟨_,rfl⟩ | ⟨_,rfl⟩<;>assumption
   have:=(jd3 (l:=[x,j,y]) (hov u) (by simp;omega) (by simp[mx,mj,my])).map (jt6 E n t)
   simp only[List.map_cons,List.map_nil] at this
   rw[l1 x (hxy.imp And.left And.left),l1 y (by rcases hxy with⟨_,rfl⟩ | ⟨_,rfl⟩;exact .inr rfl;exact .inl rfl),lj] at this
   exact this
  unfold jk8 at j4
  rcases Int.lt_or_le (f i) (f (sc n i)) with g | g
  ·exact key i (sc n i) (.inl ⟨rfl,rfl⟩) (by omega) (by omega)
  ·exact key (sc n i) i (.inr ⟨rfl,rfl⟩) (by omega) (by omega)
 ·obtain⟨sj0,sj1,sj2,_⟩:=h.sc_lt j0 j1
  have eaj:=h.at_sc j0 j1
  obtain⟨c1,c2⟩:=jsh h hp hu' j0 j1 j3
  have mj:j∈jhx E p u:=c2.2 (by rw[j4,hut])
  have mj1:=c1.1 mj
  have l2:∀x:Int,x=j∨x=sc n j→jt6 E n t x=j:=fun x hx=>(jgw h (by rcases hx with rfl | rfl<;>omega) j0).2 ⟨j1,j3,hx⟩
  have n1:j≠sc n i:=by
   intro e
   have:=h.ne (i:=j.toNat) (by omega)
   rw[e] at this j3
   rw[eai] at this
   exact this j3.symm
  have n2:i≠sc n j:=by
   intro e
   have:=h.ne (i:=i.toNat) (by omega)
   rw[e,eaj] at this
   rw[e] at ht
   exact this (j3.trans ht.symm)
  have n3:sc n i≠sc n j:=fun e=>j2 (kj0 hi0 hi1 j0 j1 e).symm
  have d1:=inj i j hi0 (by omega) j0 (by omega) (fun e=>j2 e.symm)
  have d2:=inj i (sc n j) hi0 (by omega) (by omega) (by omega) n2
  have d3:=inj (sc n i) j (by omega) (by omega) j0 (by omega) (fun e=>n1 e.symm)
  have d4:=inj (sc n i) (sc n j) (by omega) (by omega) (by omega) (by omega) n3
  have d5:=inj i (sc n i) (by omega) (by omega) (by omega) (by omega) (fun e=>si2 e.symm)
  have d6:=inj j (sc n j) (by omega) (by omega) (by omega) (by omega) (fun e=>sj2 e.symm)
  have key:∀a b:Int,0≤a→0≤b→b≠a→∀x v y w:Int,jt6 E n t x=a→jt6 E n t y=a→jt6 E n t v=b→jt6 E n t w=b→x∈jhx E p u→v∈jhx E p u→y∈jhx E p u→w∈jhx E p u→f x<f v→f v<f y→f y<f w→j4f (j14 E p n t u):=fun a b ha hb hab x v y w lx ly lv lw mx mv my mw g1 g2 g3=>by
   refine⟨a,ha,.inr ⟨b,hb,hab,?_⟩⟩
   have:=(jd3 (l:=[x,v,y,w]) (hov u) (by simp;omega) (by simp[mx,mv,my,mw])).map (jt6 E n t)
   simp only[List.map_cons,List.map_nil] at this
   rw[lx,ly,lv,lw] at this
   exact this
  have k1:=fun x v y w (hx:x=i∨x=sc n i) (hv:v=j∨v=sc n j) (hy:y=i∨y=sc n i) (hw:w=j∨w=sc n j)=>key i j hi0 j0 j2 x v y w (l1 x hx) (l1 y hy) (l2 v hv) (l2 w hw) (by rcases hx with rfl | rfl<;>assumption) (by rcases hv with rfl | rfl<;>assumption) (by rcases hy with rfl | rfl<;>assumption) (by rcases hw with rfl | rfl<;>assumption)
  have k2:=fun x v y w (hx:x=j∨x=sc n j) (hv:v=i∨v=sc n i) (hy:y=j∨y=sc n j) (hw:w=i∨w=sc n i)=>key j i j0 hi0 (fun e=>j2 e.symm) x v y w (l2 x hx) (l2 y hy) (l1 v hv) (l1 w hw) (by rcases hx with rfl | rfl<;>assumption) (by rcases hv with rfl | rfl<;>assumption) (by rcases hy with rfl | rfl<;>assumption) (by rcases hw with rfl | rfl<;>assumption)
  unfold jk8 at j5
  have fin:=koq d1 d2 d3 d4 d5 d6 j5
  rcases fin with⟨g1,g2,g3⟩ | ⟨g1,g2,g3⟩ | ⟨g1,g2,g3⟩ | ⟨g1,g2,g3⟩ | ⟨g1,g2,g3⟩ | ⟨g1,g2,g3⟩ | ⟨g1,g2,g3⟩ | ⟨g1,g2,g3⟩
  ·exact k1 i j (sc n i) (sc n j) (.inl rfl) (.inl rfl) (.inr rfl) (.inr rfl) g1 g2 g3
  ·exact k1 i (sc n j) (sc n i) j (.inl rfl) (.inr rfl) (.inr rfl) (.inl rfl) g1 g2 g3
  ·exact k1 (sc n i) j i (sc n j) (.inr rfl) (.inl rfl) (.inl rfl) (.inr rfl) g1 g2 g3
  ·exact k1 (sc n i) (sc n j) i j (.inr rfl) (.inr rfl) (.inl rfl) (.inl rfl) g1 g2 g3
  ·exact k2 j i (sc n j) (sc n i) (.inl rfl) (.inl rfl) (.inr rfl) (.inr rfl) g1 g2 g3
  ·exact k2 j (sc n i) (sc n j) i (.inl rfl) (.inr rfl) (.inr rfl) (.inl rfl) g1 g2 g3
  ·exact k2 (sc n j) i j (sc n i) (.inr rfl) (.inl rfl) (.inl rfl) (.inr rfl) g1 g2 g3
  ·exact k2 (sc n j) (sc n i) j i (.inr rfl) (.inr rfl) (.inl rfl) (.inl rfl) g1 g2 g3
end X
end Go.Vm
namespace Go.Vm
namespace X
open W
def eR (L:List Int):Nat→Int
 | 0=>0
 | i+1=>eR L i+L.getD i 0* (1-2* ((i:Int)%2))
theorem jnn {L:List Int} {i:Nat}:eR L (i+1)=eR L i+L.getD i 0* (1-2* ((i:Int)%2)):=rfl
def ja9 (L:List Int):List Int:=(List.range (L.length+1)).map (eR L)
theorem joi (L:List Int):(ja9 L).length=L.length+1:=by simp[ja9]
theorem jea {L:List Int} {i:Nat} (h:i≤L.length):(ja9 L).getD i 0=eR L i:=by
 unfold ja9;rw[List.getD,List.getElem?_map,List.getElem?_range (by omega)];rfl
theorem j7s {L M:List Int}:∀i,(∀k,k<i→L.getD k 0=M.getD k 0)→eR L i=eR M i
 | 0,_=>rfl
 | i+1,h=>by rw[jnn,jnn,j7s i fun k hk=>h k (by omega),h i (by omega)]
theorem j7r {L:List Int} {k:Nat} {v:Int} (hk:k<L.length):∀i,eR (L.set k v) i=eR L i+if k<i then(v-L.getD k 0)* (1-2* ((k:Int)%2)) else 0
 | 0=>by simp[eR]
 | i+1=>by
   rw[jnn,jnn,j7r hk i,jlr hk]
   by_cases e:i=k
   ·subst e
    rw[if_pos rfl,if_neg (by omega),if_pos (by omega),Int.sub_mul]
    omega
   ·rw[if_neg e]
    by_cases e2:k<i
    ·rw[if_pos e2,if_pos (by omega)];omega
    ·rw[if_neg e2,if_neg (by omega)];omega
theorem kmu {L M:List Int} {i:Nat} (h:i≤L.length):eR (L++M) i=eR L i:=j7s i fun k hk=>by
 rw[List.getD,List.getD,List.getElem?_append_left (by omega)]
theorem sg (i:Nat):(i%2=0∧(1-2* ((i:Int)%2))=1)∨(i%2=1∧(1-2* ((i:Int)%2))= -1):=by omega
theorem jno {L:List Int} {i:Nat} (h:i%2=0):eR L (i+1)=eR L i+L.getD i 0:=by
 rw[jnn,show(1-2* ((i:Int)%2))=1 by omega,Int.mul_one]
theorem jr5 {L:List Int} {i:Nat} (h:i%2=1):eR L (i+1)=eR L i-L.getD i 0:=by
 rw[jnn,show(1-2* ((i:Int)%2))= -1 by omega];omega
theorem j5v {L:List Int} (h:∀x∈L,1≤x∧x≤64):∀i:Nat,i≤L.length→ -(64* (i:Int))≤eR L i∧eR L i≤64*i
 | 0,_=>by simp[eR]
 | i+1,hi=>by
   have ih:=j5v h i (by omega)
   have hx:=h _ (jau (L:=L) (i:=i) (by omega))
   rcases sg i with⟨e,_⟩ | ⟨e,_⟩
   ·rw[jno e];omega
   ·rw[jr5 e];omega
theorem kcg {L:List Int} (h:∀x∈L,1≤x∧x≤8):∀i:Nat,i≤L.length→ -(8* ((i / 2:Nat):Int))≤eR L i∧eR L i≤8* (((i+1) / 2:Nat):Int)
 | 0,_=>by simp[eR]
 | i+1,hi=>by
   have ih:=kcg h i (by omega)
   have hx:=h _ (jau (L:=L) (i:=i) (by omega))
   rcases sg i with⟨e,_⟩ | ⟨e,_⟩
   ·rw[jno e];omega
   ·rw[jr5 e];omega
structure RValid (s:List Int×List Int):Prop where
 le:s.1.length≤32
 two:2≤s.1.length
 even:s.1.length%2=0
 kl:s.2.length=s.1.length
 lens:∀x∈s.1,1≤x∧x≤64
 kinds:∀x∈s.2,1≤x∧x≤3
 closed:eR s.1 s.1.length=0
theorem RValid.ends {s:List Int×List Int} (h:RValid s):REnds (ja9 s.1) s.1.length where
 len:=joi _
 two:=h.two
 even:=h.even
 closed:=by rw[jea (Nat.le_refl _),jea (Nat.zero_le _),h.closed];rfl
 up i hi e:=by
  have hx:=h.lens _ (jau (L:=s.1) (i:=i) hi)
  rw[jea (by omega),jea (by omega),jno e];omega
 down i hi e:=by
  have hx:=h.lens _ (jau (L:=s.1) (i:=i) hi)
  rw[jea (by omega),jea (by omega),jr5 e];omega
theorem jdo {s:List Int×List Int} (h:RValid s):ja3 fuel s=some 0:=by
 obtain⟨h1,h2,h3,h4,h5,h6,h7⟩:=h
 apply Ret.eq
 unfold ja3
 refine jab (fun g=>absurd g (by omega)) fun _=>jab (fun g=>absurd g (by omega)) fun _=>jab (fun g=>absurd g (by omega)) fun _=>?_
 refine jaa (by rw[Bool.and_eq_true];exact⟨decide_eq_true (by omega),rfl⟩) (jab (fun g=>absurd g (by omega)) fun _=>?_)
 refine jan (Inv:=fun x:Int×Int=>0≤x.2∧x.2≤s.1.length∧x.1=eR s.1 x.2.toNat) (m:=fun x=>((s.1.length:Int)-x.2).toNat) ?_ _ _ ⟨by simp,by simp,rfl⟩ (by simp only[fuel];omega)
 rintro ⟨at_,i⟩ rec ⟨i1,i2,i3⟩ ih
 simp only at i1 i2 i3 ⊢
 obtain⟨n,rfl⟩:=Int.eq_ofNat_of_zero_le i1
 simp only[Int.toNat_natCast] at i3 ⊢
 refine jab (fun hlt=>?_) fun hge=>?_
 ·have hx:=h5 _ (jau (L:=s.1) (i:=n) (by omega))
  have hk:=h6 _ (jau (L:=s.2) (i:=n) (by omega))
  have hb:=j5v (L:=s.1) h5 n (by omega)
  have hin:inb (n:Int) s.1.length=true:=jap (by omega) (by omega)
  have hin2:inb (n:Int) s.2.length=true:=jap (by omega) (by omega)
  refine jaa hin (jab (fun g=>absurd g (by omega)) fun _=>jab (fun g=>absurd g (by omega)) fun _=>jaa hin2 (jab (fun g=>absurd g (by omega)) fun _=>jaa hin2 (jab (fun g=>absurd g (by omega)) fun _=>?_)))
  refine jaa (by rw[Bool.and_eq_true];exact⟨decide_eq_true (by omega),rfl⟩) (jaa (jah (by omega) (by omega)) (jaa (jah (by omega) (by omega)) ?_))
  have hs:at_+s.1.getD n 0* (1-2* ((n:Int)%2))=eR s.1 (n+1):=by rw[i3,jnn]
  have hb2:=j5v (L:=s.1) h5 (n+1) (by omega)
  refine jaa (jah (by omega) (by omega)) (jaa (jah (by omega) (by omega)) (jaa (jah (by omega) (by omega)) ?_))
  exact ih _ ⟨by simp only;omega,by simp only;omega,by simp only;rw[hs,show((n:Int)+1).toNat=n+1 by omega]⟩ (by simp only;omega)
 ·have:n=s.1.length:=by omega
  subst this
  refine jab (fun g=>absurd (i3.trans h7) g) fun _=>jaj rfl
theorem jio {s:List Int×List Int} (h:RValid s):jcv fuel s=some (s,ja9 s.1):=by
 obtain⟨h1,h2,h3,h4,h5,h6,h7⟩:=h
 apply Ret.eq
 unfold jcv
 refine jan (Inv:=fun x:Int×(List Int×(List Int×List Int))=>0≤x.1∧x.1≤s.1.length∧x.2.1=s.1∧x.2.2.1=s.2∧x.2.2.2=(List.range (x.1.toNat+1)).map (eR s.1)) (m:=fun x=>((s.1.length:Int)-x.1).toNat) ?_ _ _ ⟨by simp,by simp,rfl,rfl,rfl⟩ (by simp only[fuel];omega)
 rintro ⟨i,L,K,out⟩ rec ⟨i1,i2,rfl,rfl,i3⟩ ih
 simp only at i1 i2 i3 ⊢
 obtain⟨n,rfl⟩:=Int.eq_ofNat_of_zero_le i1
 simp only[Int.toNat_natCast] at i3 ⊢
 refine jab (fun hlt=>?_) fun hge=>?_
 ·have hx:=h5 _ (jau (L:=s.1) (i:=n) (by omega))
  have hb:=j5v (L:=s.1) h5 n (by omega)
  have hb2:=j5v (L:=s.1) h5 (n+1) (by omega)
  have jbg:out.length=n+1:=by rw[i3];simp
  have hg:out.getD n 0=eR s.1 n:=by rw[i3,List.getD,List.getElem?_map,List.getElem?_range (by omega)];rfl
  have hs:out.getD n 0+s.1.getD n 0* (1-2* ((n:Int)%2))=eR s.1 (n+1):=by rw[hg,jnn]
  refine jaa (jap (by omega) (by omega)) (jaa (jap (by omega) (by omega)) (jaa (by rw[Bool.and_eq_true];exact⟨decide_eq_true (by omega),rfl⟩) ?_))
  refine jaa (jah (by omega) (by omega)) (jaa (jah (by omega) (by omega)) (jaa (jah (by omega) (by omega)) (jaa (jah (by omega) (by omega)) (jaa (ja7 (by omega)) (jaa (jah (by omega) (by omega)) ?_)))))
  refine ih _ ⟨by simp only;omega,by simp only;omega,rfl,rfl,?_⟩ (by simp only;omega)
  simp only
  rw[hs,i3,show((n:Int)+1).toNat=n+1 by omega,List.range_succ (n:=n+1),List.map_append]
  rfl
 ·exact jaj (by rw[i3,show n=s.1.length by omega];rfl)
theorem jlo {s:List Int×List Int} (h:RValid s):jdp fuel s=some (ja9 s.1):=by
 obtain⟨h1,h2,h3,h4,h5,h6,h7⟩:=h
 apply Ret.eq
 unfold jdp
 refine jan (Inv:=fun x:List Int×Int=>0≤x.2∧x.2≤s.1.length∧x.1=(List.range (x.2.toNat+1)).map (eR s.1)) (m:=fun x=>((s.1.length:Int)-x.2).toNat) ?_ _ _ ⟨by simp,by simp,rfl⟩ (by simp only[fuel];omega)
 rintro ⟨out,i⟩ rec ⟨i1,i2,i3⟩ ih
 simp only at i1 i2 i3 ⊢
 obtain⟨n,rfl⟩:=Int.eq_ofNat_of_zero_le i1
 simp only[Int.toNat_natCast] at i3 ⊢
 refine jab (fun hlt=>?_) fun hge=>?_
 ·have hx:=h5 _ (jau (L:=s.1) (i:=n) (by omega))
  have hb:=j5v (L:=s.1) h5 n (by omega)
  have jbg:out.length=n+1:=by rw[i3];simp
  have hg:out.getD n 0=eR s.1 n:=by rw[i3,List.getD,List.getElem?_map,List.getElem?_range (by omega)];rfl
  have nxt:∀v:Int,v=eR s.1 (n+1)→Ret (rec (out++[v],(n:Int)+1)) fun x=>x=ja9 s.1:=fun v hv=>by
   refine ih _ ⟨by simp only;omega,by simp only;omega,?_⟩ (by simp only;omega)
   simp only
   rw[hv,i3,show((n:Int)+1).toNat=n+1 by omega,List.range_succ (n:=n+1),List.map_append]
   rfl
  refine jaa (jap (by omega) (by omega)) (jaa (by rw[Bool.and_eq_true];exact⟨decide_eq_true (by omega),rfl⟩) ?_)
  refine jab (fun ho=>?_) fun he=>?_
  ·refine jaa (jah (by omega) (by omega)) (jaa (jap (by omega) (by omega)) ?_)
   rw[hg]
   refine jaa (jah (by omega) (by omega)) (jaa (ja7 (by omega)) (jaa (jah (by omega) (by omega)) (nxt _ ?_)))
   rw[jr5 (by omega)];omega
  ·refine jaa (jap (by omega) (by omega)) ?_
   rw[hg]
   refine jaa (jah (by omega) (by omega)) (jaa (ja7 (by omega)) (jaa (jah (by omega) (by omega)) (nxt _ ?_)))
   rw[jno (by omega)]
 ·exact jaj (by rw[i3,show n=s.1.length by omega];rfl)
end X
end Go.Vm
namespace Go.Vm
namespace X
open W
def OfQ (k:Nat) (s:List Int×List Int):Prop:=1≤s.1.length∧s.1.length≤max 1 k∧s.1.length=s.2.length+1∧(∀x∈s.1,1≤x∧x≤8)∧∀x∈s.2,1≤x∧x≤3
theorem j0i {a:List Int×List Int} (h1:bytes a.1) (h2:bytes a.2):Ret (jks fuel a) (OfQ a.1.length):=by
 unfold jks
 have fin:∀x:Int×(List Int×List Int),(0≤x.1∧x.1≤12∧x.1≤a.1.length∧x.2.1.length=x.1.toNat∧x.2.2.length=x.1.toNat-1∧(∀y∈x.2.1,1≤y∧y≤8)∧∀y∈x.2.2,1≤y∧y≤3)→
   Ret (bif(decide (((x.2.1.length:Nat):Int)=0)) then(some ([1],x.2.2)) else(some (x.2.1,x.2.2))) (OfQ a.1.length):=by
  intro x ⟨i1,i2,i0,i3,i4,i5,i6⟩
  refine jab (fun h=>jaj ⟨by simp,by simp;omega,?_,by simp,i6⟩) fun h=>jaj ⟨?_,?_,?_,i5,i6⟩
  ·simp only[List.length_singleton];omega
  all_goals (simp only;omega)
 refine jan (Inv:=fun x:Int×(List Int×List Int)=>0≤x.1∧x.1≤12∧x.1≤a.1.length∧x.2.1.length=x.1.toNat∧x.2.2.length=x.1.toNat-1∧(∀y∈x.2.1,1≤y∧y≤8)∧∀y∈x.2.2,1≤y∧y≤3) (m:=fun x=>(12-x.1).toNat) ?_ _ _ ⟨by simp,by simp,by simp,by simp,by simp,by simp,by simp⟩ (by simp[fuel])
 intro x rec hi ih
 have hI:=hi
 obtain⟨i1,i2,i0,i3,i4,i5,i6⟩:=hi
 refine jab (fun hlt=>?_) fun _=>fin x hI
 refine jab (fun h12=>?_) fun _=>fin x hI
 have hb:=h1 _ (jau (i:=x.1.toNat) (by omega))
 refine jaa (jap i1 hlt) ?_
 refine jaa (by rw[Bool.and_eq_true];exact⟨decide_eq_true (by omega),rfl⟩) ?_
 refine jaa (jah (by omega) (by omega)) ?_
 refine jaa (jah (by omega) (by omega)) ?_
 refine jaa (ja7 (by omega)) ?_
 have e5:=jjo i5 (a:=1+ (a.1.getD x.1.toNat 0)%8) (P:=fun y=>1≤y∧y≤8) (by omega)
 refine jab (fun hpos=>?_) fun hz=>?_
 ·refine jab (fun hk=>?_) fun hk=>?_
  ·refine jaa (jah (by omega) (by omega)) ?_
   refine jaa (jap (by omega) (by omega)) ?_
   have hb2:=h2 _ (jau (L:=a.2) (i:=(x.1-1).toNat) (by omega))
   refine jaa (by rw[Bool.and_eq_true];exact⟨decide_eq_true (by omega),rfl⟩) ?_
   refine jaa (ja7 (by omega)) ?_
   refine jaa (jah (by omega) (by omega)) ?_
   refine ih _ ⟨by simp only;omega,by simp only;omega,by simp only;omega,by simp only[List.length_append,List.length_singleton];omega,by simp only[List.length_append,List.length_singleton];omega,e5,jjo i6 ?_⟩ (by simp only;omega)
   rw[ju9 (by omega) (by omega)];omega
  ·refine jaa (ja7 (by omega)) ?_
   refine jaa (jah (by omega) (by omega)) ?_
   exact ih _ ⟨by simp only;omega,by simp only;omega,by simp only;omega,by simp only[List.length_append,List.length_singleton];omega,by simp only[List.length_append,List.length_singleton];omega,e5,jjo i6 (by omega)⟩ (by simp only;omega)
 ·refine jaa (jah (by omega) (by omega)) ?_
  exact ih _ ⟨by simp only;omega,by simp only;omega,by simp only;omega,by simp only[List.length_append,List.length_singleton];omega,by simp only;omega,e5,i6⟩ (by simp only;omega)
theorem j5f {L:List Int} {k:Nat} {v:Int} {P:Int→Prop} (h:∀x∈L,P x) (hv:P v):∀x∈L.set k v,P x:=fun x hx=>by
 rcases List.mem_or_eq_of_mem_set hx with h1 | h1
 ·exact h x h1
 ·rw[h1];exact hv
theorem jf5 {a:(List Int×List Int)×(Int×Unit)} (h1:bytes a.1.1) (h2:bytes a.1.2) (h3:0≤a.2.1∧a.2.1≤255):Ret (jeo fuel a) fun s=>RValid s∧s.1.length≤8∧s.1.length≤max 1 a.1.1.length+1:=by
 unfold jeo
 have hmin:(0:Int)≤min ((a.1.1.length:Nat):Int) 7∧min ((a.1.1.length:Nat):Int) 7≤((a.1.1.length:Nat):Int):=by omega
 refine jaa (by simp[bnb];omega) ?_
 generalize hP:((a.1.1.drop 0).take ((min ((a.1.1.length:Nat):Int) 7):Int).toNat)=P
 have hPl:P.length≤7∧P.length≤a.1.1.length:=by rw[←hP];simp;omega
 have hPb:bytes P:=fun x hx=>h1 x (by rw[←hP] at hx;exact List.mem_of_mem_drop (List.mem_of_mem_take hx))
 refine jax (j0i (a:=(P,a.1.2)) hPb h2) fun s hs=>?_
 obtain⟨t1,t2,t3,t4,t5⟩:=hs
 have t2:s.1.length≤max 1 P.length:=t2
 have tl:s.1.length≤7:=by omega
 refine jan (Inv:=fun x:Int×(Int×(List Int×List Int))=>0≤x.2.1∧x.2.1≤s.1.length∧x.1=eR s.1 x.2.1.toNat∧x.2.2.1=s.1.take x.2.1.toNat∧x.2.2.2=s.2.take x.2.1.toNat) (m:=fun x=>((s.1.length:Int)-x.2.1).toNat) ?_ _ _ ⟨by simp,by simp,rfl,rfl,rfl⟩ (by simp only[fuel];omega)
 rintro ⟨sum,i,L,K⟩ rec ⟨i1,i2,i3,i4,i5⟩ ih
 simp only at i1 i2 i3 i4 i5 ⊢
 obtain⟨n,rfl⟩:=Int.eq_ofNat_of_zero_le i1
 simp only[Int.toNat_natCast] at i3 i4 i5 ⊢
 refine jab (fun hlt=>?_) fun hge=>?_
 ·have hx:=t4 _ (jau (L:=s.1) (i:=n) (by omega))
  have hb:=kcg (L:=s.1) t4 n (by omega)
  have hLl:L.length=n:=by rw[i4,List.length_take];omega
  have hKl:K.length=min n s.2.length:=by rw[i5,List.length_take]
  have hin:inb (n:Int) s.1.length=true:=jap (by omega) (by omega)
  have e4:L++[s.1.getD n 0]=s.1.take (n+1):=by rw[jvd (by omega),i4]
  have nxt:∀v:Int,v=eR s.1 (n+1)→∀K',K'=s.2.take (n+1)→Ret (chk (jak ((n:Int)+1)) (rec (v,((n:Int)+1,(L++[s.1.getD n 0],K'))))) fun s=>RValid s∧s.1.length≤8∧s.1.length≤max 1 a.1.1.length+1:=fun v hv K' hK=>
   jaa (jah (by omega) (by omega)) (ih _ ⟨by simp only;omega,by simp only;omega,by simp only;rw[hv,show((n:Int)+1).toNat=n+1 by omega],by simp only;rw[e4,show((n:Int)+1).toNat=n+1 by omega],by simp only;rw[hK,show((n:Int)+1).toNat=n+1 by omega]⟩ (by simp only;omega))
  have kin:∀v:Int,v=eR s.1 (n+1)→Ret (bif(decide ((n:Int)< ((s.2.length:Nat):Int))) then(chk (inb (n:Int) s.2.length) (chk (jbm (K.length+1)) (chk (jak ((n:Int)+1)) (rec (v,((n:Int)+1,(L++[s.1.getD n 0],K++[s.2.getD n 0]))))))) else(chk (jak ((n:Int)+1)) (rec (v,((n:Int)+1,(L++[s.1.getD n 0],K)))))) fun s=>RValid s∧s.1.length≤8∧s.1.length≤max 1 a.1.1.length+1:=fun v hv=>by
   refine jab (fun hk=>?_) fun hk=>?_
   ·exact jaa (jap (by omega) (by omega)) (jaa (ja7 (by omega)) (nxt v hv _ (by rw[jvd (by omega),i5])))
   ·exact nxt v hv _ (by rw[i5,List.take_of_length_le (by omega),List.take_of_length_le (by omega)])
  refine jaa hin (jaa (ja7 (by omega)) (jaa (by rw[Bool.and_eq_true];exact⟨decide_eq_true (by omega),rfl⟩) ?_))
  refine jab (fun he=>?_) fun ho=>?_
  ·refine jaa hin (jaa (jah (by omega) (by omega)) ?_)
   exact kin _ (by rw[i3,jno (by omega)])
  ·refine jaa hin (jaa (jah (by omega) (by omega)) ?_)
   exact kin _ (by rw[i3,jr5 (by omega)])
 ·have hn:n=s.1.length:=by omega
  have hL:L=s.1:=by rw[i4,hn,List.take_of_length_le (Nat.le_refl _)]
  have hK:K=s.2:=by rw[i5,hn,List.take_of_length_le (by omega)]
  subst hL;subst hK
  have hb:=kcg (L:=s.1) t4 n (by omega)
  have h0:=t4 _ (jau (L:=s.1) (i:=0) (by omega))
  have w1:IntKind.u8.wrap (1+ (a.2.1%3))=1+a.2.1%3:=ju9 (by omega) (by omega)
  have w2:IntKind.u8.wrap (1+ ((a.2.1 / 3)%3))=1+ (a.2.1 / 3)%3:=ju9 (by omega) (by omega)
  rw[←hn] at t1 t2 t3 tl ⊢
  have t4':∀x∈s.1,1≤x∧x≤64:=fun x hx=>by have:=t4 x hx;omega
  refine jaa (by rw[Bool.and_eq_true];exact⟨decide_eq_true (by omega),rfl⟩) (jab (fun he=>?_) fun ho=>?_)
  ·have hz:=t4 _ (jau (L:=s.1) (i:=n-1) (by omega))
   have e1:(((n:Nat):Int)-1).toNat=n-1:=by omega
   refine jab (fun hp=>?_) fun hp=>?_
   ·rw[e1]
    refine jaa (jah (by omega) (by omega)) (jaa (jah (by omega) (by omega)) (jaa (jap (by omega) (by omega)) (jaa (jah (by omega) (by omega)) (jaa (jap (by omega) (by omega)) (jaa (by rw[Bool.and_eq_true];exact⟨decide_eq_true (by omega),rfl⟩) (jaa (ja7 (by omega)) (jaj ?_)))))))
    rw[w1]
    refine⟨⟨?_,?_,?_,?_,j5f t4' ?_,jjo t5 (by omega),?_⟩,?_,?_⟩<;>(try simp only[List.length_set,List.length_append,List.length_singleton])<;>try omega
    rw[←hn,j7r (by omega),if_pos (by omega),show(1-2* (((n-1:Nat):Int)%2))= -1 by omega,←i3]
    omega
   ·refine jaa (jap (by omega) (by omega)) (jaa (jah (by omega) (by omega)) (jaa (jap (by omega) (by omega)) (jaa (by rw[Bool.and_eq_true];exact⟨decide_eq_true (by omega),rfl⟩) (jaa (ja7 (by omega)) (jaj ?_)))))
    rw[w1]
    refine⟨⟨?_,?_,?_,?_,j5f t4' ?_,jjo t5 (by omega),?_⟩,?_,?_⟩<;>(try simp only[List.length_set,List.length_append,List.length_singleton])<;>try omega
    rw[←hn,j7r (by omega),if_pos (by omega),←i3]
    simp
    omega
  ·have d3:a.2.1 / 3≤255∧0≤a.2.1 / 3:=by omega
   refine jaa (by simp only[Bool.and_eq_true,decide_eq_true_eq];exact⟨⟨by omega,by omega⟩,ju9 (by omega) (by omega)⟩) (jaa (by rw[Bool.and_eq_true];exact⟨decide_eq_true (by omega),rfl⟩) (jaa (ja7 (by omega)) ?_))
   rw[w1,w2]
   refine jy7 (fun x:Int×(List Int×Option Nat)=>x.2.1.length=n∧(∀y∈x.2.1,1≤y∧y≤64)∧1≤x.1∧x.1≤64∧eR x.2.1 n=x.1) (fun x ⟨k1,k2,k3,k4,k5⟩=>?_) fun j hj=>?_
   ·refine jaa (ja7 (by omega)) (jaa (by rw[Bool.and_eq_true];exact⟨decide_eq_true (by omega),rfl⟩) (jaa (ja7 (by simp;omega)) (jaj ?_)))
    refine⟨⟨?_,?_,?_,?_,jjo k2 ⟨k3,k4⟩,jjo (jjo t5 (by omega)) (by omega),?_⟩,?_,?_⟩<;>(try simp only[List.length_append,List.length_singleton])<;>try omega
    rw[k1,jr5 (by omega),kmu (by omega),k5]
    rw[List.getD,List.getElem?_append_right (by omega),k1]
    simp
   ·refine jab (fun hp=>?_) fun hp=>?_
    ·refine jaa (jap (by omega) (by omega)) (jaa (jah (by omega) (by omega)) (jaa (jah (by omega) (by omega)) (jaa (jap (by omega) (by omega)) (hj _ ⟨by simp only[List.length_set];omega,j5f t4' (by omega),by simp,by simp,?_⟩))))
     simp only
     rw[j7r (by omega),if_pos (by omega),←i3]
     simp
     omega
    ·exact hj _ ⟨hn.symm,t4',by simp only;omega,by simp only;omega,i3.symm⟩
end X
end Go.Vm
namespace Go.Vm
namespace X
open W Go.Proofs.St
theorem jww {p:List Int} (hl:p.length≤10000) (x:Int):jbs fuel (p,x)=some (decide (x∈p)):=by
 apply Ret.eq
 unfold jbs
 refine jan (Inv:=fun i:Int=>0≤i∧i≤p.length∧∀k:Nat,(k:Int)<i→p.getD k 0≠x) (m:=fun i=>((p.length:Int)-i).toNat) ?_ _ _ ⟨by simp,by simp,fun k h=>by omega⟩ (by simp only[fuel];omega)
 rintro i rec ⟨i1,i2,i3⟩ ih
 simp only
 refine jab (fun hlt=>?_) fun hge=>?_
 ·refine jaa (jap (by omega) (by omega)) (jab (fun e=>jaj ?_) fun e=>jaa (jah (by omega) (by omega)) (ih _ ⟨by omega,by omega,fun k hk=>?_⟩ (by omega)))
  ·have:x∈p:=by rw[e];exact jau (by omega)
   rw[decide_eq_true this]
   exact decide_eq_true i1
  ·by_cases e':(k:Int)=i
   ·rw[show k=i.toNat by omega];exact fun h=>e h.symm
   ·exact i3 k (by omega)
 ·refine jaj ?_
  rw[decide_eq_false (jt4 fun k hk=>i3 k (by omega))]
structure RkR (p r:List Int):Prop where
 len:r.length=32
 rk:Rk p r
 no:∀k:Nat,k<32→(k:Int)∉p→r.getD k 0= -1
theorem jhw {p:List Int} {n:Nat} (hp:In n p) (hd:p.Nodup) (hn:n≤32) (hl:p.length≤10000):Ret (jdm fuel p) (RkR p):=by
 unfold jdm
 refine jan (Inv:=fun x:Int×List Int=>0≤x.1∧x.1≤32∧x.2.length=32∧∀k:Nat,k<x.1.toNat→x.2.getD k 0= -1) (m:=fun x=>(32-x.1).toNat) ?_ _ _ ⟨by simp,by simp,rfl,by simp⟩ (by simp only[fuel];omega)
 rintro ⟨i,r⟩ rec ⟨i1,i2,i3,i4⟩ ih
 simp only at i1 i2 i3 i4 ⊢
 refine jab (fun hlt=>?_) fun hge=>?_
 ·refine jaa (jap (by omega) (by omega)) (jaa (jah (by omega) (by omega)) (ih _ ⟨by simp only;omega,by simp only;omega,by simp only[List.length_set];exact i3,fun k hk=>?_⟩ (by simp only;omega)))
  simp only at hk ⊢
  rw[jlr (by omega)]
  split
  ·rfl
  ·exact i4 k (by omega)
 ·refine jan (Inv:=fun x:Int×List Int=>0≤x.1∧x.1≤p.length∧x.2.length=32∧(∀k:Nat,k<x.1.toNat→x.2.getD (p.getD k 0).toNat 0=k)∧∀k:Nat,k<32→(k:Int)∉p→x.2.getD k 0= -1) (m:=fun x=>((p.length:Int)-x.1).toNat) ?_ _ _ ⟨by simp,by simp,i3,by simp,fun k hk _=>i4 k (by omega)⟩ (by simp only[fuel];omega)
  rintro ⟨i,r⟩ rec ⟨i1,i2,i3,i4,i5⟩ ih
  simp only at i1 i2 i3 i4 i5 ⊢
  refine jab (fun hlt=>?_) fun hge=>?_
  ·have hm:=jau (L:=p) (i:=i.toNat) (by omega)
   have hx:=hp _ hm
   have:=j6p hd hp (by omega) (by omega) i4
   rw[show((i.toNat:Nat):Int)=i by omega,show i.toNat+1=(i+1).toNat by omega] at this
   refine jaa (jap (by omega) (by omega)) (jaa (jap (by omega) (by omega)) (jaa (jah (by omega) (by omega)) (ih _ ⟨by simp only;omega,by simp only;omega,by simp only[List.length_set];exact i3,this,fun k hk hkp=>?_⟩ (by simp only;omega))))
   simp only
   rw[jlr (by omega),if_neg (fun e=>hkp (by rw[e,show(((p.getD i.toNat 0).toNat:Nat):Int)=p.getD i.toNat 0 by omega];exact hm))]
   exact i5 k hk hkp
  ·exact jaj ⟨i3,fun k hk=>i4 k (by omega),i5⟩
section
variable {L K E:List Int} (hL:L.length≤32)
include hL
theorem jq8 (hE:E.length=L.length+1) {i:Int} (h0:0≤i) (h1:i<L.length):jbd fuel (((L,K),E),i)=some (frm E i.toNat):=by
 unfold jbd
 rw[jb9 (jap h0 (by simp only;omega)),jb9 (jah (by simp only;omega) (by simp only;omega)),jb9 (jap (by simp only;omega) (by simp only;omega))]
 simp only[frm,show(i+1).toNat=i.toNat+1 by omega]
theorem jvv (hE:E.length=L.length+1) {i:Int} (h0:0≤i) (h1:i<L.length):jbx fuel (((L,K),E),i)=some (too E i.toNat):=by
 unfold jbx
 rw[jb9 (jap h0 (by simp only;omega)),jb9 (jah (by simp only;omega) (by simp only;omega)),jb9 (jap (by simp only;omega) (by simp only;omega))]
 simp only[too,show(i+1).toNat=i.toNat+1 by omega]
theorem jd5 {i:Int} (h0:0≤i) (h1:i<L.length):jat fuel (((L,K),E),i)=some (sc L.length i):=by
 unfold jat
 rw[jb9 (jah (by simp only;omega) (by simp only;omega)),jb9 (by simp only[Bool.and_eq_true,decide_eq_true_eq];omega)]
 simp only
 congr 1
 unfold sc
 split
 ·exact Int.emod_eq_of_lt (by omega) (by omega)
 ·rw[show i+1=(L.length:Int) by omega,Int.emod_self]
end
def jtm (n:Nat) (f:Int→Int) (i x:Int):Prop:=0≤min (f i) (f (sc n i))∧jk8 n f i x
instance (n:Nat) (f:Int→Int) (i x:Int):Decidable (jk8 n f i x):=by unfold jk8;infer_instance
instance (n:Nat) (f:Int→Int) (i x:Int):Decidable (jtm n f i x):=by unfold jtm;infer_instance
theorem jug {L K E r:List Int} (hL:L.length≤32) {i v:Int} (h0:0≤i) (h1:i<L.length) (v0:0≤v) (v1:v<L.length):ja2 fuel (((L,K),E),(r,(i,v)))=some (decide (jtm L.length (fun x=>r.getD x.toNat 0) i v)):=by
 have hs:0≤sc L.length i∧sc L.length i<L.length:=by unfold sc;split<;>omega
 unfold ja2
 simp only
 rw[jb9 (jap h0 (by omega)),jd5 hL h0 h1,Option.bind_some,jb9 (jap hs.1 (by omega)),jb9 (jap v0 (by omega)),jb9 (jap v0 (by omega))]
 have e:∀b:Bool,(b=true↔jtm L.length (fun x=>r.getD x.toNat 0) i v)→some b=some (decide (jtm L.length (fun x=>r.getD x.toNat 0) i v)):=fun b hb=>by
  congr 1
  rw[Bool.eq_iff_iff,decide_eq_true_eq]
  exact hb
 by_cases g0:(0:Int)≤min (r.getD i.toNat 0) (r.getD (sc L.length i).toNat 0)
 ·rw[decide_eq_true g0,cond_true]
  by_cases g:min (r.getD i.toNat 0) (r.getD (sc L.length i).toNat 0)<r.getD v.toNat 0
  ·rw[decide_eq_true g,cond_true]
   refine e _ ?_
   rw[decide_eq_true_eq]
   exact⟨fun h=>⟨g0,g,h⟩,fun h=>h.2.2⟩
  ·rw[decide_eq_false g,cond_false]
   exact e _ ⟨fun h=>(by cases h),fun h=>absurd h.2.1 g⟩
 ·rw[decide_eq_false g0,cond_false]
  exact e _ ⟨fun h=>(by cases h),fun h=>absurd h.1 g0⟩
def j1m (E:List Int) (n:Nat) (f:Int→Int) (i:Int):Prop:=(∃j:Int,0≤j∧j<n∧frm E j.toNat<E.getD (i.toNat+1) 0∧E.getD (i.toNat+1) 0<too E j.toNat∧jtm n f i j)∨
 ∃j:Int,0≤j∧j<n∧j≠i∧E.getD (j.toNat+1) 0=E.getD (i.toNat+1) 0∧(E.getD (i.toNat+1) 0<E.getD j.toNat 0↔E.getD (i.toNat+1) 0<E.getD i.toNat 0)∧0≤min (f j) (f (sc n j))∧¬(jtm n f i j↔jtm n f i (sc n j))
def jxa (E:List Int) (n:Nat) (f:Int→Int):Prop:=∃i:Int,0≤i∧i<n∧j1m E n f i
theorem kbn {k:Nat} {E:List Int} {cr:Nat} {x:Int}:x∈(kdi k E cr).map (fun(i:Nat)=>(i:Int))↔0≤x∧x<k∧x≠cr∧E.getD (x.toNat+1) 0=E.getD (cr+1) 0∧(E.getD (cr+1) 0<E.getD x.toNat 0↔E.getD (cr+1) 0<E.getD cr 0):=by
 simp only[kdi,List.mem_map,List.mem_filter,List.mem_range,j9m,Bool.and_eq_true,Bool.not_eq_true',decide_eq_true_eq,decide_eq_false_iff_not,beq_iff_eq,decide_eq_decide]
 constructor
 ·rintro ⟨a,⟨h1,h0,h2,h3⟩,rfl⟩
  rw[Int.toNat_natCast]
  exact⟨by omega,by omega,by omega,h2,h3⟩
 ·rintro ⟨h1,h2,h0,h3,h4⟩
  exact⟨x.toNat,⟨by omega,by omega,h3,h4⟩,by omega⟩
theorem jl1 {s:List Int×List Int} (h:RValid s) {r:List Int} (hr:r.length=32):Ret (jbj fuel ((s,ja9 s.1),r)) fun b=>(b=true↔jxa (ja9 s.1) s.1.length fun x=>r.getD x.toNat 0):=by
 have hel:=joi s.1
 have hn:=h.le
 generalize hf:(fun x:Int=>r.getD x.toNat 0)=f
 have hfx:∀x:Int,r.getD x.toNat 0=f x:=fun x=>by rw[←hf]
 have bt:∀i x:Int,0≤i→i<s.1.length→0≤x→x<s.1.length→ja2 fuel (((s.1,s.2),ja9 s.1),(r,(i,x)))=some (decide (jtm s.1.length f i x)):=fun i x a b c d=>by
  rw[jug hn a b c d]
  simp only[hf]
 unfold jbj
 refine jan (Inv:=fun x:Int×(Bool×Unit)=>0≤x.1∧x.1≤s.1.length∧x.2.1=false∧∀i:Int,0≤i→i<x.1→¬j1m (ja9 s.1) s.1.length f i) (m:=fun x=>((s.1.length:Int)-x.1).toNat) ?_ _ _ ⟨by simp,by simp,rfl,fun i a b=>by simp at b;omega⟩ (by simp only[fuel];omega)
 rintro ⟨i,bad,_⟩ rec ⟨i1,i2,i3,i4⟩ ih
 simp only at i1 i2 i3 i4 ⊢
 subst i3
 refine jab (fun hlt=>?_) fun hge=>?_
 ·have ei:(i+1).toNat=i.toNat+1:=by omega
  have found:j1m (ja9 s.1) s.1.length f i→Ret (some true) fun b=>(b=true↔jxa (ja9 s.1) s.1.length f):=fun hc=>jaj ⟨fun _=>⟨i,i1,by omega,hc⟩,fun _=>rfl⟩
  refine jaa (jah (by omega) (by omega)) (jaa (jap (by omega) (by omega)) ?_)
  rw[ei]
  refine jan (Inv:=fun x:Int×(Bool×Unit)=>0≤x.1∧x.1≤s.1.length∧x.2.1=false∧∀j:Int,0≤j→j<x.1→¬(frm (ja9 s.1) j.toNat< (ja9 s.1).getD (i.toNat+1) 0∧(ja9 s.1).getD (i.toNat+1) 0<too (ja9 s.1) j.toNat∧jtm s.1.length f i j)) (m:=fun x=>((s.1.length:Int)-x.1).toNat) ?_ _ _ ⟨by simp,by simp,rfl,fun i a b=>by simp at b;omega⟩ (by simp only[fuel];omega)
  rintro ⟨j,bad,_⟩ rec2 ⟨j1,j2,j3,j4⟩ ih2
  simp only at j1 j2 j3 j4 ⊢
  subst j3
  refine jab (fun hlt2=>?_) fun hge2=>?_
  ·have nxt:¬(frm (ja9 s.1) j.toNat< (ja9 s.1).getD (i.toNat+1) 0∧(ja9 s.1).getD (i.toNat+1) 0<too (ja9 s.1) j.toNat∧jtm s.1.length f i j)→Ret (chk (jak (j+1)) (rec2 (j+1,(false,())))) fun b=>(b=true↔jxa (ja9 s.1) s.1.length f):=fun hc=>by
    refine jaa (jah (by omega) (by omega)) (ih2 _ ⟨by simp only;omega,by simp only;omega,rfl,fun j' a b=>?_⟩ (by simp only;omega))
    simp only at b
    by_cases e:j'=j
    ·subst e;exact hc
    ·exact j4 j' a (by omega)
   rw[jq8 hn hel j1 hlt2,Option.bind_some]
   refine jab (fun g1=>?_) fun g1=>nxt fun hh=>g1 hh.1
   rw[jvv hn hel j1 hlt2,Option.bind_some]
   refine jab (fun g2=>?_) fun g2=>nxt fun hh=>g2 hh.2.1
   rw[bt i j i1 hlt j1 hlt2,Option.bind_some]
   refine jab (fun g3=>found (.inl ⟨j,j1,hlt2,g1,g2,g3⟩)) fun g3=>nxt fun hh=>g3 hh.2.2
  ·have hla:¬ ∃j:Int,0≤j∧j<s.1.length∧frm (ja9 s.1) j.toNat< (ja9 s.1).getD (i.toNat+1) 0∧(ja9 s.1).getD (i.toNat+1) 0<too (ja9 s.1) j.toNat∧jtm s.1.length f i j:=fun⟨j',a,b,c⟩=>j4 j' a (by omega) c
   have hrun:jy3 (((s.1,s.2),ja9 s.1),(i,()))=some ((kdi s.1.length (ja9 s.1) i.toNat).map fun(i:Nat)=>(i:Int)):=by
    unfold jy3
    simp only
    rw[show(Nat.blt (List.length (α:=Int) s.1) (List.length (α:=Int) (ja9 s.1))&&decide ((0:Int)≤i)&&Nat.blt (i.toNat+1) (List.length (α:=Int) (ja9 s.1))&&Nat.ble (List.length (α:=Int) (ja9 s.1)) 1000000)=true by
     simp[Nat.blt_eq]
     omega,cond_true]
   rw[hrun,Option.bind_some]
   refine j1i (Inv:=fun(l:List Int) (x:Bool×Unit)=>x.1=false∧(∀y∈l,0≤y∧y<s.1.length∧y≠i.toNat∧(ja9 s.1).getD (y.toNat+1) 0=(ja9 s.1).getD (i.toNat+1) 0∧((ja9 s.1).getD (i.toNat+1) 0< (ja9 s.1).getD y.toNat 0↔(ja9 s.1).getD (i.toNat+1) 0< (ja9 s.1).getD i.toNat 0))∧
    ∀j:Int,0≤j→j<s.1.length→j≠i→(ja9 s.1).getD (j.toNat+1) 0=(ja9 s.1).getD (i.toNat+1) 0→((ja9 s.1).getD (i.toNat+1) 0< (ja9 s.1).getD j.toNat 0↔(ja9 s.1).getD (i.toNat+1) 0< (ja9 s.1).getD i.toNat 0)→(0≤min (f j) (f (sc s.1.length j))→(jtm s.1.length f i j↔jtm s.1.length f i (sc s.1.length j)))∨j∈l) ?_ ?_ _ _ ⟨rfl,fun y hy=>kbn.1 hy,fun j a b c d e=>.inr (kbn.2 ⟨a,b,by omega,d,e⟩)⟩
   ·rintro ⟨bad,_⟩ ⟨k1,_,k2⟩
    simp only at k1
    subst k1
    refine jaa (jah (by omega) (by omega)) (ih _ ⟨by simp only;omega,by simp only;omega,rfl,fun i' a b=>?_⟩ (by simp only;omega))
    simp only at b
    by_cases e:i'=i
    ·subst e
     rintro (hh | ⟨j,a1,a2,a3,a4,a5,a6,a7⟩)
     ·exact hla hh
     ·rcases k2 j a1 a2 a3 a4 a5 with hh | hh
      ·exact a7 (hh a6)
      ·cases hh
    ·exact i4 i' a (by omega)
   ·rintro y l rec3 ⟨bad,_⟩ ⟨k1,k2,k3⟩ ih3
    simp only at k1
    subst k1
    obtain⟨y0,y1,y9,y2,y3⟩:=k2 y List.mem_cons_self
    obtain⟨s0,s1⟩:0≤sc s.1.length y∧sc s.1.length y<s.1.length:=by unfold sc;split<;>omega
    have nxt:(0≤min (f y) (f (sc s.1.length y))→(jtm s.1.length f i y↔jtm s.1.length f i (sc s.1.length y)))→Ret (rec3 (false,())) fun b=>(b=true↔jxa (ja9 s.1) s.1.length f):=fun hc=>by
     refine ih3 _ ⟨rfl,fun z hz=>k2 z (List.mem_cons_of_mem _ hz),fun j a b c d e=>?_⟩
     rcases k3 j a b c d e with hh | hh
     ·exact .inl hh
     ·rcases List.mem_cons.1 hh with rfl | hh
      ·exact .inl hc
      ·exact .inr hh
    refine jaa (jap (by omega) (by omega)) ?_
    rw[jd5 hn y0 y1,Option.bind_some]
    refine jaa (jap (by omega) (by omega)) ?_
    rw[hfx,hfx]
    refine jab (fun g=>?_) fun g=>nxt fun hh=>absurd hh g
    rw[bt i y i1 hlt y0 y1,Option.bind_some,Option.bind_some,bt i _ i1 hlt s0 s1,Option.bind_some]
    by_cases e:jtm s.1.length f i y↔jtm s.1.length f i (sc s.1.length y)
    ·rw[show(decide (jtm s.1.length f i y)==decide (jtm s.1.length f i (sc s.1.length y)))=true by rw[beq_iff_eq,decide_eq_decide];exact e]
     exact nxt fun _=>e
    ·rw[show(decide (jtm s.1.length f i y)==decide (jtm s.1.length f i (sc s.1.length y)))=false by rw[beq_eq_false_iff_ne,ne_eq,decide_eq_decide];exact e]
     exact found (.inr ⟨y,y0,y1,by omega,y2,y3,g,e⟩)
 ·refine jaj ⟨fun hh=>(by cases hh),?_⟩
  rintro ⟨j,a,b,c⟩
  exact absurd c (i4 j a (by omega))
def je1 (n:Nat) (f:Int→Int) (i:Int):Int:=if i%2=0 then(if f i<f (sc n i) then 2 else 1) else(if f (sc n i)<f i then 2 else 1)
theorem jq7 {s:List Int×List Int} (h:RValid s) {r:List Int} {i:Int} (h0:0≤i) (h1:i<s.1.length):ja1 fuel ((s,ja9 s.1),(r,i))=some (je1 s.1.length (fun x=>r.getD x.toNat 0) i):=by
 have hn:=h.le
 obtain⟨s0,s1,s2,s3⟩:=h.ends.sc_lt h0 h1
 unfold ja1
 simp only
 rw[jd5 hn h0 h1,Option.bind_some,jb9 (by rw[Bool.and_eq_true];exact⟨decide_eq_true s0,rfl⟩)]
 have i1:inb i 32=true:=jap h0 (by omega)
 have i2:inb (sc s.1.length i) 32=true:=jap s0 (by omega)
 simp only[i1,i2,jb9]
 unfold je1
 by_cases e:i%2=0
 ·rw[if_pos e,decide_eq_false (by omega),cond_false]
  by_cases g:r.getD i.toNat 0<r.getD (sc s.1.length i).toNat 0
  ·rw[decide_eq_true g,cond_true,if_pos g]
  ·rw[decide_eq_false g,cond_false,if_neg g]
 ·rw[if_neg e,decide_eq_true (by omega),cond_true]
  by_cases g:r.getD (sc s.1.length i).toNat 0<r.getD i.toNat 0
  ·rw[decide_eq_true g,cond_true,if_pos g]
  ·rw[decide_eq_false g,cond_false,if_neg g]
def j76 (K:List Int) (n:Nat) (f:Int→Int):Prop:=∃i:Int,0≤i∧i<n∧K.getD i.toNat 0≠3∧0≤min (f i) (f (sc n i))∧K.getD i.toNat 0≠je1 n f i
theorem jpc {s:List Int×List Int} (h:RValid s) {r:List Int} (hr:r.length=32):Ret (jb3 fuel ((s,ja9 s.1),r)) fun b=>(b=true↔j76 s.2 s.1.length fun x=>r.getD x.toNat 0):=by
 have hn:=h.le
 have hk:=h.kl
 generalize hf:(fun x:Int=>r.getD x.toNat 0)=f
 have hfx:∀x:Int,r.getD x.toNat 0=f x:=fun x=>by rw[←hf]
 unfold jb3
 refine jan (Inv:=fun x:Int=>0≤x∧x≤s.2.length∧∀i:Int,0≤i→i<x→¬(s.2.getD i.toNat 0≠3∧0≤min (f i) (f (sc s.1.length i))∧s.2.getD i.toNat 0≠je1 s.1.length f i)) (m:=fun x=>((s.2.length:Int)-x).toNat) ?_ _ _ ⟨by simp,by simp,fun i a b=>by omega⟩ (by simp only[fuel];omega)
 rintro i rec ⟨i1,i2,i3⟩ ih
 simp only
 refine jab (fun hlt=>?_) fun hge=>?_
 ·have nxt:¬(s.2.getD i.toNat 0≠3∧0≤min (f i) (f (sc s.1.length i))∧s.2.getD i.toNat 0≠je1 s.1.length f i)→Ret (chk (jak (i+1)) (rec (i+1))) fun b=>(b=true↔j76 s.2 s.1.length f):=fun hc=>by
   refine jaa (jah (by omega) (by omega)) (ih _ ⟨by omega,by omega,fun j a b=>?_⟩ (by omega))
   by_cases e:j=i
   ·subst e;exact hc
   ·exact i3 j a (by omega)
  obtain⟨s0,s1⟩:0≤sc s.1.length i∧sc s.1.length i<s.1.length:=by have:=h.ends.sc_lt i1 (by omega);exact⟨this.1,this.2.1⟩
  refine jaa (jap (by omega) (by omega)) (jab (fun g=>?_) fun g=>nxt fun hh=>g hh.1)
  refine jaa (jap (by omega) (by omega)) ?_
  rw[jd5 hn i1 (by omega),Option.bind_some]
  refine jaa (jap (by omega) (by omega)) ?_
  rw[hfx,hfx]
  refine jab (fun g1=>?_) fun g1=>nxt fun hh=>g1 hh.2.1
  have hkk:ja1 fuel (((s.1,s.2),ja9 s.1),(r,i))=some (je1 s.1.length f i):=by rw[←hf];exact jq7 h i1 (by omega)
  rw[hkk,Option.bind_some]
  refine jab (fun g2=>jaj ⟨fun _=>⟨i,i1,by omega,g,g1,g2⟩,fun _=>rfl⟩) fun g2=>nxt fun hh=>g2 hh.2.2
 ·refine jaj ⟨fun hh=>(by cases hh),?_⟩
  rintro ⟨j,a,b,c⟩
  exact absurd c (i3 j a (by omega))
theorem jvw {s:List Int×List Int} (h:RValid s) {p:List Int} (hl:p.length≤10000):Ret (jcq fuel (s,p)) fun e=>(Ord s.1.length p→e=0)∧(¬Ord s.1.length p→e=if p.length=s.1.length then 1 else 5):=by
 unfold jcq
 rw[show ja3 fuel ((s,p).1.1,(s,p).1.2)=some 0 from jdo h,Option.bind_some]
 simp only
 refine jab (fun g=>absurd rfl g) fun _=>jab (fun g=>jaj ⟨fun ho=>absurd ho.len (by omega),fun _=>by rw[if_neg (by omega)]⟩) fun g=>?_
 have hle:p.length=s.1.length:=by omega
 refine jan (Inv:=fun x:Int=>0≤x∧x≤p.length∧∀k:Nat,(k:Int)<x→(k:Int)∈p) (m:=fun x=>((p.length:Int)-x).toNat) ?_ _ _ ⟨by simp,by simp,fun k h=>by omega⟩ (by simp only[fuel];omega)
 rintro i rec ⟨i1,i2,i3⟩ ih
 refine jab (fun hlt=>?_) fun hge=>?_
 ·rw[jww hl,Option.bind_some]
  by_cases hm:i∈p
  ·rw[decide_eq_true hm]
   refine jaa (jah (by omega) (by omega)) (ih _ ⟨by omega,by omega,fun k hk=>?_⟩ (by omega))
   by_cases e:(k:Int)=i
   ·rw[e];exact hm
   ·exact i3 k (by omega)
  ·rw[decide_eq_false hm]
   refine jaj ⟨fun ho=>absurd (ho.mem_iff.2 (jhg.2 ⟨i1,by omega⟩)) hm,fun _=>by rw[if_pos hle]⟩
 ·exact jaj ⟨fun _=>rfl,fun ho=>absurd (j65 hle fun k hk=>i3 k (by omega)) ho⟩
theorem jl0 {s:List Int×List Int} (h:RValid s) {p:List Int} (hp:Ord s.1.length p):jcq fuel (s,p)=some 0:=by
 have hn:=h.le
 obtain⟨e,h1,h2,_⟩:=jvw h (p:=p) (by rw[hp.len];omega)
 rw[h1,h2 hp]
end X
end Go.Vm
namespace Go.Vm
namespace X
open W Go.Proofs.St
theorem j9y {n:Nat} {f g:Int→Int} (hfg:∀x:Int,0≤x→x<n→f x=g x) {i x:Int} (h0:0≤i) (h1:i<n) (x0:0≤x) (x1:x<n):jk8 n f i x↔jk8 n g i x:=by
 have hs:0≤sc n i∧sc n i<n:=by unfold sc;split<;>omega
 unfold jk8
 rw[hfg i h0 h1,hfg _ hs.1 hs.2,hfg x x0 x1]
theorem jwv {E:List Int} {n:Nat} {f g:Int→Int} (hfg:∀x:Int,0≤x→x<n→f x=g x) (hf:∀x:Int,0≤x→x<n→0≤g x):jxa E n f↔jdz E n g:=by
 have hs:∀i:Int,0≤i→i<n→0≤sc n i∧sc n i<n:=fun i a b=>by unfold sc;split<;>omega
 have hm:∀i:Int,0≤i→i<n→0≤min (f i) (f (sc n i)):=fun i a b=>by
  have:=hs i a b
  rw[hfg i a b,hfg _ this.1 this.2]
  have:=hf i a b
  have:=hf _ (hs i a b).1 (hs i a b).2
  omega
 have hb:∀i x:Int,0≤i→i<n→0≤x→x<n→(jtm n f i x↔jk8 n g i x):=fun i x a b c d=>by
  unfold jtm
  rw[←j9y hfg a b c d]
  exact⟨fun h=>h.2,fun h=>⟨hm i a b,h⟩⟩
 unfold jxa j1m jdz
 constructor
 ·rintro ⟨i,a,b,⟨j,c,d,e1,e2,e3⟩ | ⟨j,c,d,e1,e2,e3,e4,e5⟩⟩
  ·exact⟨i,a,b,.inl ⟨j,c,d,e1,e2,(hb i j a b c d).1 e3⟩⟩
  ·exact⟨i,a,b,.inr ⟨j,c,d,e1,e2,e3,by rw[←hb i j a b c d,←hb i _ a b (hs j c d).1 (hs j c d).2];exact e5⟩⟩
 ·rintro ⟨i,a,b,⟨j,c,d,e1,e2,e3⟩ | ⟨j,c,d,e1,e2,e3,e5⟩⟩
  ·exact⟨i,a,b,.inl ⟨j,c,d,e1,e2,(hb i j a b c d).2 e3⟩⟩
  ·exact⟨i,a,b,.inr ⟨j,c,d,e1,e2,e3,hm j c d,by rw[hb i j a b c d,hb i _ a b (hs j c d).1 (hs j c d).2];exact e5⟩⟩
def jny (K:List Int) (n:Nat) (f:Int→Int):Prop:=∃i:Int,0≤i∧i<n∧K.getD i.toNat 0≠3∧K.getD i.toNat 0≠je1 n f i
theorem jp7 {n:Nat} {f g:Int→Int} (hfg:∀x:Int,0≤x→x<n→f x=g x) {i:Int} (h0:0≤i) (h1:i<n):je1 n f i=je1 n g i:=by
 have hs:0≤sc n i∧sc n i<n:=by unfold sc;split<;>omega
 unfold je1
 rw[hfg i h0 h1,hfg _ hs.1 hs.2]
theorem ju8 {K:List Int} {n:Nat} {f g:Int→Int} (hfg:∀x:Int,0≤x→x<n→f x=g x) (hf:∀x:Int,0≤x→x<n→0≤g x):j76 K n f↔jny K n g:=by
 have hs:∀i:Int,0≤i→i<n→0≤sc n i∧sc n i<n:=fun i a b=>by unfold sc;split<;>omega
 constructor
 ·rintro ⟨i,a,b,c,_,d⟩
  exact⟨i,a,b,c,by rw[←jp7 hfg a b];exact d⟩
 ·rintro ⟨i,a,b,c,d⟩
  refine⟨i,a,b,c,?_,by rw[jp7 hfg a b];exact d⟩
  rw[hfg i a b,hfg _ (hs i a b).1 (hs i a b).2]
  have:=hf i a b
  have:=hf _ (hs i a b).1 (hs i a b).2
  omega
theorem jn9 (p:List Int) (x:Int):0≤rkF p x:=by unfold rkF;omega
def Ans (s:List Int×List Int) (p:List Int) (e:Int):Prop:=
 (jdz (ja9 s.1) s.1.length (rkF p)→e=12)∧(¬jdz (ja9 s.1) s.1.length (rkF p)→jny s.2 s.1.length (rkF p)→e=13)∧(¬jdz (ja9 s.1) s.1.length (rkF p)→¬jny s.2 s.1.length (rkF p)→e=0)
theorem Ans.uniq {s:List Int×List Int} {p:List Int} {e e':Int} (h:Ans s p e) (h':Ans s p e'):e=e':=by
 by_cases c:jdz (ja9 s.1) s.1.length (rkF p)
 ·rw[h.1 c,h'.1 c]
 ·by_cases w:jny s.2 s.1.length (rkF p)
  ·rw[h.2.1 c w,h'.2.1 c w]
  ·rw[h.2.2 c w,h'.2.2 c w]
theorem jj0 {s:List Int×List Int} (h:RValid s) {p:List Int} (hp:Ord s.1.length p):Ret (jfa fuel (s,p)) (Ans s p):=by
 have hn:=h.le
 have hl:=hp.len
 unfold jfa
 rw[show jcq fuel (((s,p).1.1,(s,p).1.2),(s,p).2)=some 0 from jl0 h hp,Option.bind_some]
 refine jab (fun g=>absurd rfl g) fun _=>?_
 rw[show jcv fuel ((s,p).1.1,(s,p).1.2)=some (s,ja9 s.1) from jio h,Option.bind_some]
 refine jax (jhw hp.in hp.nodup hn (by simp only;omega)) fun r hr=>?_
 have hfg:=hr.rk.eqF hp
 have hnn:∀x:Int,0≤x→x<s.1.length→0≤rkF p x:=fun x _ _=>jn9 p x
 refine jax (jl1 h hr.len) fun b hb=>?_
 rw[jwv hfg hnn] at hb
 refine jtl (fun e=>jaj ⟨fun _=>rfl,fun c=>absurd (hb.1 e) c,fun c=>absurd (hb.1 e) c⟩) fun e=>?_
 have nc:¬jdz (ja9 s.1) s.1.length (rkF p):=fun c=>by rw[hb.2 c] at e;cases e
 refine jax (jpc h hr.len) fun b hb=>?_
 rw[ju8 hfg hnn] at hb
 refine jtl (fun e=>jaj ⟨fun c=>absurd c nc,fun _ _=>rfl,fun _ w=>absurd (hb.1 e) w⟩) fun e=>jaj ⟨fun c=>absurd c nc,fun _ w=>?_,fun _ _=>rfl⟩
 rw[hb.2 w] at e
 cases e
theorem j0l {E:List Int} {u x:Int}:jpi E u x=true↔frm E x.toNat≤u∧u<too E x.toNat:=by
 unfold jpi
 rw[Bool.and_eq_true,decide_eq_true_eq,decide_eq_true_eq]
set_option maxHeartbeats 1000000 in
theorem j0d {s:List Int×List Int} (h:RValid s) {p:List Int} (hp:Ord s.1.length p) (t:Int) (right:Bool):jgq fuel (s,(p,(t,right)))=some (jma [] (j14 (ja9 s.1) p s.1.length t (if right then t else t-1))):=by
 have hn:=h.le
 have hl:=hp.len
 have hel:=joi s.1
 have h2:=h.two
 apply Ret.eq
 generalize hu:(if right then t else t-1)=u
 generalize hR:jma [] (j14 (ja9 s.1) p s.1.length t u)=R
 unfold jgq
 rw[show jdp fuel ((s,(p,(t,right))).1.1,(s,(p,(t,right))).1.2)=some (ja9 s.1) from jlo h,Option.bind_some]
 generalize hE:ja9 s.1=E at *
 generalize hN:s.1.length=n at *
 simp only
 have hE2:E.length=n+1:=hel
 refine jan (Inv:=fun x:List Int×Int=>0≤x.2∧x.2≤p.length∧(x.1.length:Int)≤x.2∧jma x.1 (((p.drop x.2.toNat).filter (jpi E u)).map (jt6 E n t))=R) (m:=fun x=>((p.length:Int)-x.2).toNat) ?_ _ _ ⟨by simp,by simp,by simp,by simpa[j14,jhx] using hR⟩ (by simp only[fuel];omega)
 rintro ⟨o,i⟩ rec ⟨i1,i2,i3,i4⟩ ih
 simp only at i1 i2 i3 i4 ⊢
 refine jab (fun hlt=>?_) fun hge=>?_
 ·have hd:p.drop i.toNat=p.getD i.toNat 0::p.drop (i+1).toNat:=by
   rw[show(i+1).toNat=i.toNat+1 by omega,List.drop_eq_getElem_cons (by omega),List.getD,List.getElem?_eq_getElem (by omega)];rfl
  have hq:=hp.in _ (jau (L:=p) (i:=i.toNat) (by omega))
  rw[hd] at i4
  have hin:=jap (i:=i) (n:=p.length) (by omega) (by omega)
  generalize p.getD i.toNat 0=q at hq i4 ⊢
  have e1:(q+1).toNat=q.toNat+1:=by omega
  have q1:inb q E.length=true:=jap (by omega) (by omega)
  have q2:inb (q+1) E.length=true:=jap (by omega) (by omega)
  have q3:jak (q+1)=true:=jah (by omega) (by omega)
  have q4:jak (i+1)=true:=jah (by omega) (by omega)
  rw[e1]
  simp only[hin,q1,q2,q3,q4,jb9]
  have nxt:∀o':List Int,(o'.length:Int)≤i+1→jma o' (((p.drop (i+1).toNat).filter (jpi E u)).map (jt6 E n t))=R→Ret (rec (o',i+1)) fun x=>x=R:=fun o' h1 h2=>
   ih _ ⟨by simp only;omega,by simp only;omega,h1,h2⟩ (by simp only;omega)
  have skip:jpi E u q=false→Ret (rec (o,i+1)) fun x=>x=R:=fun hv=>by
   rw[List.filter_cons,if_neg (by rw[hv];simp)] at i4
   exact nxt o (by omega) i4
  have lp:∀g:Int,0≤g→o.getLast?≠some g→jma o (g::(((p.drop (i+1).toNat).filter (jpi E u)).map (jt6 E n t)))=R→Ret (jav (fun rec5 (x5:Int)=>bif(decide (x5< ((o.length:Nat):Int))) then(chk (inb x5 o.length) (bif(decide ((o.getD x5.toNat 0)=g)) then(some false) else(chk (jak (x5+1)) (rec5 (x5+1))))) else(chk (jbm (o.length+1)) (rec ((o++[g]),(i+1))))) fuel 0) fun x=>x=R:=fun g hg hlast hfit=>by
   unfold jma at hfit
   rw[if_neg (by omega),if_neg (by omega)] at hfit
   refine jan (Inv:=fun x:Int=>0≤x∧x≤o.length∧∀k:Nat,(k:Int)<x→o.getD k 0≠g) (m:=fun x=>((o.length:Int)-x).toNat) ?_ _ _ ⟨by simp,by simp,fun k h=>by omega⟩ (by simp only[fuel];omega)
   rintro k rec5 ⟨k1,k2,k3⟩ ih5
   refine jab (fun hlt=>?_) fun hge=>?_
   ·refine jaa (jap (by omega) (by omega)) (jab (fun e=>?_) fun e=>?_)
    ·have hm:g∈o:=by rw[←e];exact jau (by omega)
     rw[if_neg (fun h=>h hm),if_neg hlast] at hfit
     exact jaj hfit
    ·refine jaa (jah (by omega) (by omega)) (ih5 _ ⟨by omega,by omega,fun k' hk'=>?_⟩ (by omega))
     by_cases e':(k':Int)=k
     ·rw[show k'=k.toNat by omega];exact e
     ·exact k3 k' (by omega)
   ·have hm:g∉o:=jt4 fun k' hk'=>k3 k' (by omega)
    rw[if_pos hm] at hfit
    exact jaa (ja7 (by omega)) (nxt _ (by simp;omega) hfit)
  have ov:jpi E u q=true→jma o (jt6 E n t q::(((p.drop (i+1).toNat).filter (jpi E u)).map (jt6 E n t)))=R:=fun hv=>by
   rw[List.filter_cons,if_pos hv] at i4
   exact i4
  cases right
  all_goals
   simp only[cond_true,cond_false,Bool.not_true,Bool.not_false]
   simp at hu
   refine jab (fun g1=>skip ?_) fun g1=>jab (fun g2=>skip ?_) fun g2=>?_
   ·exact Bool.eq_false_iff.2 fun h=>absurd (j0l.1 h) (by unfold frm too;omega)
   ·exact Bool.eq_false_iff.2 fun h=>absurd (j0l.1 h) (by unfold frm too;omega)
   have hov:=ov (j0l.2 (by unfold frm too;omega))
   refine jy7 (fun x=>x=if E.getD q.toNat 0=t then(if q=0 then(n:Int)-1 else q-1) else -1) (fun x hx=>?_) fun j hj=>?_
   ·refine jy7 (fun y=>y=jt6 E n t q) (fun y hy=>?_) fun j hj=>?_
    ·rw[←hy] at hov
     refine jab (fun g3=>?_) fun g3=>?_
     ·have:y= -1:=by
       have:=kbw (E:=E) (t:=t) hq.1 hq.2
       omega
      subst this
      unfold jma at hov
      rw[if_neg (by omega),if_pos rfl] at hov
      refine jab (fun g=>?_) fun g=>?_
      ·rw[if_neg (fun e=>by rw[e] at g;simp at g)] at hov
       exact jaj hov
      ·have eo:o=[]:=List.eq_nil_of_length_eq_zero (by omega)
       rw[if_pos eo] at hov
       exact nxt o (by omega) hov
     ·refine jab (fun g=>?_) fun g=>?_
      ·have e3:(((o.length:Nat):Int)-1).toNat=o.length-1:=by omega
       refine jaa (jah (by omega) (by omega)) (jaa (jap (by omega) (by omega)) ?_)
       rw[e3]
       have el:o.getLast?=some (o.getD (o.length-1) 0):=by
        rw[List.getLast?_eq_getElem?,List.getD,List.getElem?_eq_getElem (by omega)];rfl
       refine jab (fun g4=>?_) fun g4=>lp y (by omega) (by rw[el];simpa using g4) hov
       unfold jma at hov
       have hm:y∈o:=by rw[←g4];exact jau (by omega)
       rw[if_neg (by omega),if_neg (by omega),if_neg (fun h=>h hm),if_pos (by rw[el,g4])] at hov
       refine jaa (jah (by omega) (by omega)) (jaa (by simp[bnb];omega) (jaa rfl ?_))
       have et:o.take (o.length-1)=o.dropLast:=by rw[List.dropLast_eq_take]
       rw[et]
       exact nxt _ (by rw[List.length_dropLast];omega) hov
      ·refine lp y (by omega) ?_ hov
       rw[List.eq_nil_of_length_eq_zero (show o.length=0 by omega)]
       simp
    ·refine jab (fun g=>hj _ ?_) fun g=>hj _ ?_
     ·unfold jt6;rw[if_pos g]
     ·unfold jt6;rw[if_neg g];exact hx
   ·refine jab (fun g=>?_) fun g=>hj _ (by rw[if_neg g])
    refine jaa (jah (by omega) (by omega)) (jaa (jah (by omega) (by omega)) (jaa (by simp only[Bool.and_eq_true,decide_eq_true_eq];omega) (hj _ ?_)))
    rw[if_pos g]
    split
    ·rename_i e0
     rw[e0,show(0:Int)+ (n:Int)-1=(n:Int)-1 by omega]
     exact Int.emod_eq_of_lt (by omega) (by omega)
    ·rw[show q+ (n:Int)-1=(q-1)+n by omega,Int.add_emod_right]
     exact Int.emod_eq_of_lt (by omega) (by omega)
 ·refine jaj ?_
  rw[←i4,show i.toNat=p.length by omega,List.drop_length];rfl
end X
end Go.Vm
namespace Go.Vm
namespace X
open W Go.Proofs.St
theorem js5:ja0 fuel ()=some true:=by kernel_rfl
theorem jj3 {s:List Int×List Int} (h:RValid s) {p:List Int} (hp:Ord s.1.length p):Ret (jfd fuel (s,p)) (Ans s p):=by
 have hn:=h.le
 have hl:=hp.len
 have hel:=joi s.1
 have h2:=h.two
 have hk:=h.kl
 have hE:=h.ends
 have pw:=j6w hp.nodup
 unfold jfd
 rw[show jdp fuel ((s,p).1.1,(s,p).1.2)=some (ja9 s.1) from jlo h,Option.bind_some]
 simp only
 refine jan (Inv:=fun x:Int=>0≤x∧x≤(ja9 s.1).length∧∀i:Nat,(i:Int)<x→∀u,(u=(ja9 s.1).getD i 0-1∨u=(ja9 s.1).getD i 0)→¬j4f (j14 (ja9 s.1) p s.1.length ((ja9 s.1).getD i 0) u)) (m:=fun x=>(((ja9 s.1).length:Int)-x).toNat) ?_ _ _ ⟨by simp,by simp,fun i a=>by omega⟩ (by simp only[fuel];omega)
 rintro i rec ⟨i1,i2,i3⟩ ih
 refine jab (fun hlt=>?_) fun hge=>?_
 ·have hin:inb i (ja9 s.1).length=true:=jap (by omega) (by omega)
  have fnd:∀u,(u=(ja9 s.1).getD i.toNat 0-1∨u=(ja9 s.1).getD i.toNat 0)→jma [] (j14 (ja9 s.1) p s.1.length ((ja9 s.1).getD i.toNat 0) u)=false→Ret (some 12) (Ans s p):=fun u hu hf=>by
   have hb:j4f (j14 (ja9 s.1) p s.1.length ((ja9 s.1).getD i.toNat 0) u):=by
    apply Classical.byContradiction
    intro hb
    rw[(j3f hE hp hu).2 hb] at hf
    cases hf
   have hc:=j0r hE hp hu pw hb
   exact jaj ⟨fun _=>rfl,fun c=>absurd hc c,fun c=>absurd hc c⟩
  have hF:∀rt:Bool,jgq fuel ((s.1,s.2),(p,((ja9 s.1).getD i.toNat 0,rt)))=some (jma [] (j14 (ja9 s.1) p s.1.length ((ja9 s.1).getD i.toNat 0) (if rt then(ja9 s.1).getD i.toNat 0 else(ja9 s.1).getD i.toNat 0-1))):=fun rt=>j0d h hp _ rt
  refine jaa hin ?_
  rw[hF true,Option.bind_some,if_pos rfl]
  refine jtl (fun e=>fnd _ (.inr rfl) (by simpa using e)) fun e=>?_
  refine jaa hin ?_
  rw[hF false,Option.bind_some,if_neg (by simp)]
  refine jtl (fun e=>fnd _ (.inl rfl) (by simpa using e)) fun e'=>?_
  refine jaa (jah (by omega) (by omega)) (ih _ ⟨by omega,by omega,fun j hj u hu=>?_⟩ (by omega))
  by_cases ej:(j:Int)=i
  ·have:j=i.toNat:=by omega
   subst this
   rw[←j3f hE hp hu]
   rcases hu with rfl | rfl
   ·simpa using e'
   ·simpa using e
  ·exact i3 j (by omega) u hu
 ·have nc:¬jdz (ja9 s.1) s.1.length (rkF p):=fun hc=>by
   obtain⟨j,hj,u,hu,hb⟩:=j1b hE hp pw hc
   exact i3 (j+1) (by omega) u hu hb
  refine jaa (by simp only[Bool.and_eq_true,decide_eq_true_eq];omega) ?_
  refine jan (Inv:=fun x:Int×(List Int×Option Nat)=>0≤x.1∧x.1≤s.1.length∧x.2.1.length=s.1.length∧∀k:Nat,k<x.1.toNat→x.2.1.getD (p.getD k 0).toNat 0=k) (m:=fun x=>((s.1.length:Int)-x.1).toNat) ?_ _ _ ⟨by simp,by simp,by simp,by simp⟩ (by simp only[fuel];omega)
  rintro ⟨i,at_,cp⟩ rec ⟨i1,i2,i3,i4⟩ ih
  simp only at i1 i2 i3 i4 ⊢
  refine jab (fun hlt=>?_) fun hge=>?_
  ·have hx:=hp.in _ (jau (L:=p) (i:=i.toNat) (by omega))
   have:=j6p hp.nodup hp.in (by omega) (by omega) i4
   rw[show((i.toNat:Nat):Int)=i by omega,show i.toNat+1=(i+1).toNat by omega] at this
   exact jaa (jap (by omega) (by omega)) (jaa (jap (by omega) (by omega)) (jaa (jah (by omega) (by omega)) (ih _ ⟨by simp only;omega,by simp only;omega,by simp only[List.length_set];exact i3,this⟩ (by simp only;omega))))
  ·have hrk:Rk p at_:=fun k hk=>i4 k (by omega)
   have hfg:=hrk.eqF hp
   refine jan (Inv:=fun x:Int=>0≤x∧x≤s.1.length∧∀j:Int,0≤j→j<x→¬(s.2.getD j.toNat 0≠3∧s.2.getD j.toNat 0≠je1 s.1.length (rkF p) j)) (m:=fun x=>((s.1.length:Int)-x).toNat) ?_ _ _ ⟨by simp,by simp,fun i a b=>by omega⟩ (by simp only[fuel];omega)
   rintro i rec ⟨i1,i2,i3⟩ ih
   refine jab (fun hlt=>?_) fun hge=>?_
   ·obtain⟨s0,s1,s2,s3⟩:=hE.sc_lt i1 hlt
    have hsc:(i+1)% ((s.1.length:Nat):Int)=sc s.1.length i:=by
     unfold sc
     split
     ·exact Int.emod_eq_of_lt (by omega) (by omega)
     ·rw[show i+1=(s.1.length:Int) by omega,Int.emod_self]
    have hki:=h.kinds _ (jau (L:=s.2) (i:=i.toNat) (by omega))
    have hik:inb i s.2.length=true:=jap (by omega) (by omega)
    have hne:rkF p i≠rkF p (sc s.1.length i):=fun e=>s2 (jim (hp.memI i1 hlt) (hp.memI s0 s1) e).symm
    have nxt:¬(s.2.getD i.toNat 0≠3∧s.2.getD i.toNat 0≠je1 s.1.length (rkF p) i)→Ret (chk (jak (i+1)) (rec (i+1))) (Ans s p):=fun hc=>by
     refine jaa (jah (by omega) (by omega)) (ih _ ⟨by omega,by omega,fun j a b=>?_⟩ (by omega))
     by_cases e:j=i
     ·subst e;exact hc
     ·exact i3 j a (by omega)
    have bad:s.2.getD i.toNat 0≠3→s.2.getD i.toNat 0≠je1 s.1.length (rkF p) i→Ret (some 13) (Ans s p):=fun a b=>jaj ⟨fun c=>absurd c nc,fun _ _=>rfl,fun _ w=>absurd ⟨i,i1,hlt,a,b⟩ w⟩
    refine jaa (jah (by omega) (by omega)) (jaa (by simp only[Bool.and_eq_true,decide_eq_true_eq];omega) (jaa (by simp only[Bool.and_eq_true,decide_eq_true_eq];omega) ?_))
    rw[hsc]
    refine jy7 (fun x:Int×Int=>(0≤x.1∧x.1<s.1.length)∧(0≤x.2∧x.2<s.1.length)∧rkF p x.1≠rkF p x.2∧je1 s.1.length (rkF p) i=if rkF p x.2<rkF p x.1 then 2 else 1) (fun x ⟨x1,x2,x3,x4⟩=>?_) fun j hj=>?_
    ·have o1:inb x.1 at_.length=true:=jap x1.1 (by omega)
     have o2:inb x.2 at_.length=true:=jap x2.1 (by omega)
     simp only[hik,o1,o2,jb9]
     rw[hfg _ x1.1 x1.2,hfg _ x2.1 x2.2]
     refine jab (fun k2=>?_) fun k2=>jab (fun k1=>?_) fun k1=>nxt fun hh=>hh.1 (by omega)
     ·refine jab (fun g=>bad (by omega) (by rw[x4,if_neg (by omega)];omega)) fun g=>jab (fun k1=>absurd k1 (by omega)) fun k1=>nxt fun hh=>hh.2 (by rw[x4,if_pos (by omega)];exact k2)
     ·refine jab (fun g=>bad (by omega) (by rw[x4,if_pos (by omega)];omega)) fun g=>nxt fun hh=>hh.2 (by rw[x4,if_neg (by omega)];exact k1)
    ·refine jab (fun g=>hj _ ⟨⟨s0,s1⟩,⟨i1,hlt⟩,fun e=>hne e.symm,?_⟩) fun g=>hj _ ⟨⟨i1,hlt⟩,⟨s0,s1⟩,hne,?_⟩
     ·unfold je1;rw[if_pos g]
     ·unfold je1;rw[if_neg g]
   ·refine jaj ⟨fun c=>absurd c nc,fun _ w=>?_,fun _ _=>rfl⟩
    obtain⟨j,a,b,c⟩:=w
    exact absurd c (i3 j a (by omega))
theorem jna {a0 a1 y:List Int} {l:Int} (h0:bytes a0) (h1:bytes a1) (hl:0≤l∧l≤255) (hy:bytes y):jdi fuel (((a0,a1),(l,())),y)=some true:=by
 apply Ret.eq
 unfold jdi
 refine jax (jf5 (a:=((a0,a1),(l,()))) h0 h1 hl) fun s hs=>?_
 obtain⟨hv,h8,_⟩:=hs
 refine jax (j58 hy (n:=s.1.length) (by omega)) fun p hp=>?_
 rw[show ja3 fuel (s.1,s.2)=some 0 from jdo hv,Option.bind_some]
 refine jab (fun _=>?_) fun g=>absurd rfl g
 refine jax (jj0 hv hp) fun e1 he1=>jax (jj3 hv hp) fun e2 he2=>?_
 refine jab (fun _=>?_) fun g=>absurd (he1.uniq he2) g
 rw[js5,Option.bind_some]
 exact jaj rfl
end X
end Go.Vm
