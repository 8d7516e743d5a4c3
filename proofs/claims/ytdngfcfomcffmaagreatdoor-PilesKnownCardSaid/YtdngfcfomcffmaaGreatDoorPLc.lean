/-
  Piles: words of creases: when loops are like brackets.
  Piles: the law's own fits, side; ranks.
  Piles: crossing, by creases and by stacks.
  Piles: listed, between, kind, crosses.
  Piles: Check, and the law's own check.
  Piles: the plain law PilesCheck: Layers; the law.
  Piles: a pile turned over, and turned end for end.
  Piles: the law PilesKinds: Over, Turn, Kinds; the law.
  Piles: which piles are the same; the orders; Same.
  Piles: Least; the law PilesLeast.
  Piles: the law PilesLeast.
  Piles: the law PilesKnown: at the derived values the other laws answer.
-/
import Derived.Test.YtdngfcfomcffmaaGreatDoorPLb
set_option linter.unusedSimpArgs false
set_option linter.unusedVariables false
namespace Go.Vm
namespace X
open W Go.Proofs.St
def BadW (w:List Int):Prop:=∃c:Int,0≤c∧([c, -1,c].Sublist w∨∃d:Int,0≤d∧d≠c∧[c,d,c,d].Sublist w)
def Twice (w:List Int):Prop:=∀g:Int,0≤g→g∈w→w.count g=2
def fitsG:List Int→List Int→Bool
 | _,[]=>true
 | o,g::L=>if g= -2 then fitsG o L else if g= -1 then(if o=[] then fitsG o L else false) else if g∉o then fitsG (o++[g]) L else if o.getLast?=some g then fitsG o.dropLast L else false
theorem sub_skip {x:Int} {l:List Int}:∀ {A w:List Int},x∉A→(x::l).Sublist (A++w)→(x::l).Sublist w
 | [],_,_,h=>h
 | a::A,w,hn,h=>by
   rw[List.cons_append] at h
   have hx:x≠a:=fun e=>hn (e▸List.mem_cons_self)
   cases h with
   | cons _ h=>exact sub_skip (fun h'=>hn (List.mem_cons_of_mem _ h')) h
   | cons_cons _ h=>exact absurd rfl hx
theorem sub_filter {f:Int→Bool} {l w w':List Int} (h:l.Sublist w) (hl:∀x∈l,f x=true) (hw:(w.filter f).Sublist w'):l.Sublist w':=by
 have:=h.filter f
 rw[List.filter_eq_self.2 hl] at this
 exact this.trans hw
theorem filter_mid {f:Int→Bool} {A B L:List Int} (hB:B.filter f=[]):((A++B++L).filter f).Sublist (A++L):=by
 rw[List.filter_append,List.filter_append,hB,List.append_nil,←List.filter_append]
 exact List.filter_sublist
theorem bad_mono {w w':List Int} (h:w.Sublist w'):BadW w→BadW w':=by
 rintro ⟨c,h0,h1 | ⟨d,h1,h2,h3⟩⟩
 ·exact⟨c,h0,.inl (h1.trans h)⟩
 ·exact⟨c,h0,.inr ⟨d,h1,h2,h3.trans h⟩⟩
theorem bad_drop {A B L:List Int} {q:Int→Bool} (hB:B.filter q=[]) (hq:∀c:Int,BadW (A++B++L)→True)
  (hc:∀c d:Int,0≤c→d≠c→(d= -1∨0≤d)→[c,d,c].Sublist (A++B++L)→q c=true)
  (hd:∀c d:Int,0≤c→0≤d→d≠c→[c,d,c,d].Sublist (A++B++L)→q d=true) (h1:q (-1)=true):BadW (A++B++L)→BadW (A++L):=by
 rintro ⟨c,h0,h | ⟨d,g1,g2,h⟩⟩
 ·refine⟨c,h0,.inl (sub_filter h (fun x hx=>?_) (filter_mid hB))⟩
  have:=hc c (-1) h0 (by omega) (.inl rfl) h
  simp only[List.mem_cons,List.not_mem_nil,or_false] at hx
  rcases hx with rfl | rfl | rfl<;>assumption
 ·refine⟨c,h0,.inr ⟨d,g1,g2,sub_filter h (fun x hx=>?_) (filter_mid hB)⟩⟩
  have k1:=hc c d h0 g2 (.inr g1) (List.Sublist.trans (by simp) h)
  have k2:=hd c d h0 g1 g2 h
  simp only[List.mem_cons,List.not_mem_nil,or_false] at hx
  rcases hx with rfl | rfl | rfl | rfl<;>assumption
theorem bad_neg {A L:List Int}:BadW (A++[-2]++L)↔BadW (A++L):=by
 refine⟨bad_drop (q:=fun x=>decide (x≠ -2)) (by simp) (fun _ _=>trivial) (fun c d h _ _ _=>by simp;omega) (fun c d _ h _ _=>by simp;omega) (by simp),bad_mono ?_⟩
 exact List.Sublist.append (List.sublist_append_left A [-2]) (List.Sublist.refl L)
theorem no_adj {A L:List Int} {g d:Int} (hA:g∉A) (hL:g∉L) (hd:d≠g):¬ [g,d,g].Sublist (A++[g,g]++L):=fun h=>by
 rw[List.append_assoc] at h
 have h:=sub_skip hA h
 cases h with
 | cons _ h=>
   cases h with
   | cons _ h=>exact hL (h.subset (by simp))
   | cons_cons _ h=>exact hL (h.subset (by simp))
 | cons_cons _ h=>
   cases h with
   | cons _ h=>exact hL (h.subset (by simp))
   | cons_cons _ h=>exact hd rfl
theorem bad_pair {A L:List Int} {g:Int} (hg:0≤g) (hA:g∉A) (hL:g∉L):BadW (A++[g,g]++L)↔BadW (A++L):=by
 refine⟨bad_drop (q:=fun x=>decide (x≠g)) (by simp) (fun _ _=>trivial) (fun c d h h2 _ hs=>?_) (fun c d h h1 h2 hs=>?_) (by simp;omega),bad_mono ?_⟩
 ·rw[decide_eq_true_eq]
  rintro rfl
  exact no_adj hA hL h2 hs
 ·rw[decide_eq_true_eq]
  rintro rfl
  exact no_adj hA hL (d:=c) (fun e=>h2 e.symm) (List.Sublist.trans (by simp) hs)
 ·exact List.Sublist.append (List.sublist_append_left A [g,g]) (List.Sublist.refl L)
theorem fitsG_iff:∀(L o:List Int),o.Nodup→(∀x∈o,0≤x)→(∀x∈L, -2≤x)→Twice (o++L)→(fitsG o L=true↔¬BadW (o++L))
 | [],o,hn,ho,_,ht=>by
   match o,hn,ho,ht with
   | [],_,_,_=>
     refine⟨fun _=>?_,fun _=>rfl⟩
     rintro ⟨c,_,h | ⟨d,_,_,h⟩⟩<;>simp at h
   | a::o,hn,ho,ht=>
     have:=ht a (ho a List.mem_cons_self) (by simp)
     rw[List.append_nil,List.count_cons_self,List.count_eq_zero.2 (List.nodup_cons.1 hn).1] at this
     omega
 | g::L,o,hn,ho,hl,ht=>by
   have hl':∀x∈L, -2≤x:=fun x hx=>hl x (List.mem_cons_of_mem _ hx)
   unfold fitsG
   by_cases e2:g= -2
   ·subst e2
    rw[if_pos rfl,fitsG_iff L o hn ho hl' (fun x h0 hx=>?_),←bad_neg,List.append_assoc]
    ·rfl
    ·have:=ht x h0 (by simp only[List.mem_append,List.mem_cons] at hx ⊢;exact hx.elim .inl (fun h=>.inr (.inr h)))
     rw[List.count_append,List.count_cons_of_ne (by omega)] at this
     rw[List.count_append];exact this
   rw[if_neg e2]
   by_cases e1:g= -1
   ·subst e1
    rw[if_pos rfl]
    by_cases eo:o=[]
    ·subst eo
     rw[if_pos rfl,fitsG_iff L [] hn ho hl' (fun x h0 hx=>?_)]
     ·rw[List.nil_append,List.nil_append]
      refine not_congr ⟨bad_mono (by simp),?_⟩
      rintro ⟨c,h0,h | ⟨d,h1,h2,h⟩⟩
      ·cases h with
       | cons _ h=>exact⟨c,h0,.inl h⟩
       | cons_cons _ h=>omega
      ·cases h with
       | cons _ h=>exact⟨c,h0,.inr ⟨d,h1,h2,h⟩⟩
       | cons_cons _ h=>omega
     ·have:=ht x h0 (by simp only[List.mem_append,List.mem_cons] at hx ⊢;exact hx.elim .inl (fun h=>.inr (.inr h)))
      rw[List.nil_append,List.count_cons_of_ne (by omega)] at this
      exact this
    ·rw[if_neg eo]
     refine⟨fun h=>(by cases h),fun h=>absurd ?_ h⟩
     match o,hn,ho,ht,eo with
     | a::o,hn,ho,ht,_=>
       have ha:=ho a List.mem_cons_self
       have:=ht a ha (by simp)
       rw[List.cons_append,List.count_cons_self,List.count_append,List.count_eq_zero.2 (List.nodup_cons.1 hn).1,List.count_cons_of_ne (by omega)] at this
       have hm:a∈L:=List.count_pos_iff.1 (by omega)
       refine⟨a,ha,.inl ?_⟩
       rw[List.cons_append]
       refine List.Sublist.cons_cons _ (List.Sublist.trans (List.Sublist.cons_cons _ (List.singleton_sublist.2 hm)) (List.sublist_append_right _ _))
   rw[if_neg e1]
   have hg:0≤g:=by have:=hl g List.mem_cons_self;omega
   have hgt:=ht g hg (by simp)
   rw[List.count_append,List.count_cons_self] at hgt
   by_cases em:g∈o
   ·rw[if_neg (fun h=>h em)]
    have hco:o.count g=1:=by
     have h1:=List.count_pos_iff.2 em
     have h2:=List.nodup_iff_count.1 hn g
     omega
    have hgL:g∉L:=List.count_eq_zero.1 (by omega)
    by_cases el:o.getLast?=some g
    ·rw[if_pos el]
     obtain⟨A,rfl⟩:∃A,o=A++[g]:=List.getLast?_eq_some_iff.1 el
     have hgA:g∉A:=fun h=>by
      have:=(List.nodup_append.1 hn).2.2 g h g (by simp)
      exact this rfl
     rw[List.dropLast_concat,fitsG_iff L A (List.nodup_append.1 hn).1 (fun x hx=>ho x (List.mem_append.2 (.inl hx))) hl' (fun x h0 hx=>?_)]
     ·rw[←bad_pair hg hgA hgL]
      simp
     ·have hxg:x≠g:=fun e=>by
       rcases List.mem_append.1 hx with h | h
       ·exact hgA (e▸h)
       ·exact hgL (e▸h)
      have:=ht x h0 (by simp only[List.mem_append,List.mem_cons] at hx ⊢;exact hx.elim (fun h=>.inl (.inl h)) (fun h=>.inr (.inr h)))
      rw[List.count_append,List.count_append,List.count_cons_of_ne (fun e=>hxg e.symm),List.count_cons_of_ne (fun e=>hxg e.symm),List.count_nil] at this
      rw[List.count_append]
      omega
    ·rw[if_neg el]
     refine⟨fun h=>(by cases h),fun h=>absurd ?_ h⟩
     obtain⟨A,B,rfl⟩:=List.append_of_mem em
     match B,el,hn,ho,ht,hco with
     | [],el,_,_,_,_=>exact absurd (by simp) el
     | d::B,el,hn,ho,ht,hco=>
       have hd0:=ho d (by simp)
       have hn2:=List.nodup_append.1 hn
       have hdg:d≠g:=fun e=>by
        have:=(List.nodup_cons.1 hn2.2.1).1
        exact this (e▸List.mem_cons_self)
       have hdo:(A++g::d::B).count d≤1:=List.nodup_iff_count.1 hn d
       have hdt:=ht d hd0 (by simp)
       rw[List.count_append,List.count_cons_of_ne (fun e=>hdg e.symm)] at hdt
       have hdL:d∈L:=List.count_pos_iff.1 (by omega)
       refine⟨g,hg,.inr ⟨d,hd0,hdg,?_⟩⟩
       have:[g,d,g,d].Sublist ((g::d::B)++(g::L)):=by
        rw[List.cons_append,List.cons_append]
        refine List.Sublist.cons_cons _ (List.Sublist.cons_cons _ (List.Sublist.trans (List.Sublist.cons_cons _ (List.singleton_sublist.2 hdL)) (List.sublist_append_right _ _)))
       rw[List.append_assoc]
       exact this.trans (List.sublist_append_right _ _)
   ·rw[if_pos em]
    have e:o++g::L=(o++[g])++L:=by simp
    rw[e,fitsG_iff L (o++[g]) (List.nodup_append.2 ⟨hn,by simp,fun a ha b hb e=>em (by simp at hb;rw[←hb,←e];exact ha)⟩) (fun x hx=>?_) hl' (by rw[←e];exact ht)]
    rcases List.mem_append.1 hx with h | h
    ·exact ho x h
    ·simp at h;omega
end X
end Go.Vm
namespace Go.Vm
namespace X
open W Go.Proofs.St
theorem not_mem_getD {o:List Int} {g:Int} (h:∀k:Nat,k<o.length→o.getD k 0≠g):g∉o:=fun hm=>by
 obtain⟨k,hk,e⟩:=List.mem_iff_getElem.1 hm
 exact h k hk (by rw[List.getD,List.getElem?_eq_getElem hk];exact e)
theorem fits_ok {L:List Int} (hl:L.length≤10000):law17_fits fuel L=some (fitsG [] L):=by
 apply Ret.eq
 generalize hR:fitsG [] L=R
 unfold law17_fits
 refine Ret_loop (Inv:=fun x:List Int×Int=>0≤x.2∧x.2≤L.length∧(x.1.length:Int)≤x.2∧fitsG x.1 (L.drop x.2.toNat)=R) (m:=fun x=>((L.length:Int)-x.2).toNat) ?_ _ _ ⟨by simp,by simp,by simp,by simpa using hR⟩ (by simp only[fuel];omega)
 rintro ⟨o,i⟩ rec ⟨i1,i2,i3,i4⟩ ih
 simp only at i1 i2 i3 i4 ⊢
 refine Ret_dec (fun hlt=>?_) fun hge=>?_
 ·have hd:L.drop i.toNat=L.getD i.toNat 0::L.drop (i+1).toNat:=by
   rw[show(i+1).toNat=i.toNat+1 by omega,List.drop_eq_getElem_cons (by omega),List.getD,List.getElem?_eq_getElem (by omega)];rfl
  rw[hd] at i4
  have hin:=inb_t (i:=i) (n:=L.length) (by omega) (by omega)
  generalize L.getD i.toNat 0=g at i4 ⊢
  unfold fitsG at i4
  have nxt:∀o':List Int,(o'.length:Int)≤i+1→fitsG o' (L.drop (i+1).toNat)=R→Ret (chk (i64b (i+1)) (rec (o',i+1))) fun x=>x=R:=fun o' h1 h2=>
   Ret_chk (i64b_t (by omega) (by omega)) (ih _ ⟨by simp only;omega,by simp only;omega,h1,h2⟩ (by simp only;omega))
  refine Ret_chk hin (Ret_dec (fun e2=>?_) fun e2=>?_)
  ·rw[if_pos e2] at i4
   exact nxt o (by omega) i4
  rw[if_neg e2] at i4
  refine Ret_chk hin (Ret_dec (fun e1=>?_) fun e1=>?_)
  ·rw[if_pos e1] at i4
   refine Ret_dec (fun h=>?_) fun h=>?_
   ·rw[if_neg (fun e=>by rw[e] at h;simp at h)] at i4
    exact Ret_some i4
   ·rw[if_pos (List.eq_nil_of_length_eq_zero (by omega))] at i4
    exact nxt o (by omega) i4
  rw[if_neg e1] at i4
  refine Ret_loop (Inv:=fun x:Int×Int=>0≤x.2∧x.2≤o.length∧ -1≤x.1∧x.1<x.2∧(0≤x.1→o.getD x.1.toNat 0=g)∧∀k:Nat,(x.1<k)→(k:Int)<x.2→o.getD k 0≠g) (m:=fun x=>((o.length:Int)-x.2).toNat) ?_ _ _ ⟨by simp,by simp,by simp,by simp,fun h=>by simp at h,fun k h1 h2=>by simp at h1 h2;omega⟩ (by simp only[fuel];omega)
  rintro ⟨at_,k⟩ rec2 ⟨k1,k2,k3,k4,k5,k6⟩ ih2
  simp only at k1 k2 k3 k4 k5 k6 ⊢
  refine Ret_dec (fun hlt2=>?_) fun hge2=>?_
  ·refine Ret_chk (inb_t (by omega) (by omega)) (Ret_chk hin (Ret_dec (fun e=>?_) fun e=>?_))
   ·refine Ret_chk (i64b_t (by omega) (by omega)) (ih2 _ ⟨by simp only;omega,by simp only;omega,by simp only;omega,by simp only;omega,fun _=>e,fun k' h1 h2=>?_⟩ (by simp only;omega))
    simp only at h1 h2
    omega
   ·refine Ret_chk (i64b_t (by omega) (by omega)) (ih2 _ ⟨by simp only;omega,by simp only;omega,k3,by simp only;omega,k5,fun k' h1 h2=>?_⟩ (by simp only;omega))
    simp only at h1 h2
    by_cases e':(k':Int)=k
    ·rw[show k'=k.toNat by omega];exact e
    ·exact k6 k' h1 (by omega)
  ·refine Ret_dec (fun h=>?_) fun h=>?_
   ·have:g∉o:=not_mem_getD fun k' hk'=>k6 k' (by omega) (by omega)
    rw[if_pos this] at i4
    exact Ret_chk hin (Ret_chk (lenOk_t (by omega)) (nxt _ (by simp;omega) i4))
   ·have hm:g∈o:=by rw[←k5 (by omega)];exact getD_mem (by omega)
    rw[if_neg (fun h=>h hm)] at i4
    refine Ret_chk (i64b_t (by omega) (by omega)) (Ret_dec (fun e=>?_) fun e=>?_)
    ·refine Ret_some ?_
     rw[if_neg (fun el=>?_)] at i4
     ·exact i4
     ·have:=k6 (o.length-1) (by omega) (by omega)
      rw[List.getLast?_eq_getElem?] at el
      exact this (by rw[List.getD,el];rfl)
    ·have el:o.getLast?=some g:=by
      rw[List.getLast?_eq_getElem?,←k5 (by omega),List.getD,show o.length-1=at_.toNat by omega,List.getElem?_eq_getElem (by omega)];rfl
     rw[if_pos el] at i4
     refine Ret_chk (by simp[bnb];omega) ?_
     have et:o.take at_.toNat=o.dropLast:=by rw[List.dropLast_eq_take,show at_.toNat=o.length-1 by omega]
     have:=nxt o.dropLast (by rw[List.length_dropLast];omega) i4
     rw[←et] at this
     refine Ret_chk (i64b_t (by omega) (by omega)) (Ret_chk rfl ?_)
     obtain⟨r,h1,h2⟩:=this
     rw[chk_t (i64b_t (by omega) (by omega))] at h1
     exact⟨r,h1,h2⟩
 ·refine Ret_some ?_
  rw[←i4,show i.toNat=L.length by omega,List.drop_length];rfl
def lab (E:List Int) (n:Nat) (t x:Int):Int:=
 if E.getD (x.toNat+1) 0=t then(if x=n-1 then -2 else x) else if E.getD x.toNat 0=t then(if x=0 then -2 else x-1) else -1
theorem side_ok {s:List Int×List Int} (h:Valid s) {p:List Int} (hp:In s.1.length p) (hl:p.length≤10000) (t:Int):law17_side fuel (s,(p,t))=some (p.map (lab (endsL s.1) s.1.length t)):=by
 apply Ret.eq
 unfold law17_side
 refine Ret_bind (Ret.of (law17_ends_ok (s:=(s.1,s.2)) h)) fun r e=>?_
 subst e
 have hel:=endsL_len s.1
 have hn:=h.1
 refine Ret_loop (Inv:=fun x:List Int×Int=>0≤x.2∧x.2≤p.length∧x.1=(p.take x.2.toNat).map (lab (endsL s.1) s.1.length t)) (m:=fun x=>((p.length:Int)-x.2).toNat) ?_ _ _ ⟨by simp,by simp,by simp⟩ (by simp only[fuel];omega)
 rintro ⟨out,i⟩ rec ⟨i1,i2,i3⟩ ih
 simp only at i1 i2 i3 ⊢
 refine Ret_dec (fun hlt=>?_) fun hge=>?_
 ·have hx:=hp _ (getD_mem (L:=p) (i:=i.toNat) (by omega))
  have hol:out.length=i.toNat:=by rw[i3];simp;omega
  have hin:=inb_t (i:=i) (n:=p.length) (by omega) (by omega)
  have hst:=E_step h (i:=(p.getD i.toNat 0).toNat) (by omega)
  have es:(p.take (i+1).toNat).map (lab (endsL s.1) s.1.length t)=out++[lab (endsL s.1) s.1.length t (p.getD i.toNat 0)]:=by
   rw[show(i+1).toNat=i.toNat+1 by omega,take_snoc (by omega),List.map_append,i3];rfl
  generalize p.getD i.toNat 0=q at hx hst es ⊢
  have e1:(q+1).toNat=q.toNat+1:=by omega
  rw[e1]
  have nxt:∀o:Int,o=lab (endsL s.1) s.1.length t q→Ret (chk (lenOk (out.length+1)) (chk (i64b (i+1)) (rec (out++[o],i+1)))) fun x=>x=p.map (lab (endsL s.1) s.1.length t):=fun o ho=>
   Ret_chk (lenOk_t (by omega)) (Ret_chk (i64b_t (by omega) (by omega)) (ih _ ⟨by simp only;omega,by simp only;omega,by simp only;rw[ho,es]⟩ (by simp only;omega)))
  refine Ret_chk hin (Ret_chk (inb_t (by omega) (by omega)) ?_)
  refine Ret_jn (fun x=>x=if(endsL s.1).getD q.toNat 0=t then q-1 else -1) (fun x hx2=>?_) fun j hj=>?_
  ·refine Ret_chk (i64b_t (by omega) (by omega)) (Ret_chk (inb_t (by omega) (by omega)) ?_)
   refine Ret_dec (fun g1=>?_) fun g1=>?_
   ·refine Ret_chk (i64b_t (by omega) (by omega)) (Ret_dec (fun g2=>nxt _ ?_) fun g2=>Ret_chk (inb_t (by omega) (by omega)) (Ret_dec (fun g3=>absurd g1 (by omega)) fun g3=>nxt _ ?_))
    ·unfold lab;rw[if_pos g1,if_pos g2]
    ·unfold lab;rw[if_pos g1,if_neg g2]
   ·refine Ret_chk (i64b_t (by omega) (by omega)) (Ret_dec (fun g2=>?_) fun g2=>Ret_chk (inb_t (by omega) (by omega)) (Ret_dec (fun g3=>Ret_dec (fun g4=>nxt _ ?_) fun g4=>nxt _ ?_) fun g3=>nxt _ ?_))
    ·exfalso
     rw[hx2] at g2
     split at g2<;>omega
    ·unfold lab;rw[if_neg g1,if_pos g3,if_pos g4]
    ·rw[hx2,if_pos g3];unfold lab;rw[if_neg g1,if_pos g3,if_neg g4]
    ·rw[hx2,if_neg g3];unfold lab;rw[if_neg g1,if_neg g3]
  ·refine Ret_dec (fun g=>Ret_chk (i64b_t (by omega) (by omega)) (hj _ (by rw[if_pos g]))) fun g=>hj _ (by rw[if_neg g])
 ·exact Ret_some (by rw[i3,List.take_of_length_le (by omega)])
def Rk (p r:List Int):Prop:=∀i:Nat,i<p.length→r.getD (p.getD i 0).toNat 0=i
theorem getD_inj {p:List Int} (h:p.Nodup) {i j:Nat} (hi:i<p.length) (hj:j<p.length) (e:p.getD i 0=p.getD j 0):i=j:=by
 rw[List.getD,List.getD,List.getElem?_eq_getElem hi,List.getElem?_eq_getElem hj] at e
 exact(List.getElem_inj h).1 e
theorem set_rk {p r:List Int} {i:Nat} (hd:p.Nodup) {n:Nat} (hp:In n p) (hr:n≤r.length) (hi:i<p.length) (h:∀k:Nat,k<i→r.getD (p.getD k 0).toNat 0=k):
  ∀k:Nat,k<i+1→(r.set (p.getD i 0).toNat (i:Int)).getD (p.getD k 0).toNat 0=k:=fun k hk=>by
 have b1:=hp _ (getD_mem (L:=p) (i:=i) hi)
 have b2:=hp _ (getD_mem (L:=p) (i:=k) (by omega))
 rw[getD_set (by omega)]
 by_cases e:k=i
 ·subst e;rw[if_pos rfl]
 ·rw[if_neg (fun e2=>e (getD_inj hd (by omega) hi (by omega))),h k (by omega)]
theorem ranks_ok {p:List Int} {n:Nat} (hp:In n p) (hd:p.Nodup) (hn:n≤32) (hl:p.length≤10000):Ret (piles_ranks fuel p) fun r=>Rk p r∧r.length=32:=by
 unfold piles_ranks
 refine Ret_loop (Inv:=fun x:Int×List Int=>0≤x.1∧x.1≤p.length∧x.2.length=32∧∀k:Nat,k<x.1.toNat→x.2.getD (p.getD k 0).toNat 0=k) (m:=fun x=>((p.length:Int)-x.1).toNat) ?_ _ _ ⟨by simp,by simp,rfl,by simp⟩ (by simp only[fuel];omega)
 rintro ⟨i,r⟩ rec ⟨i1,i2,i3,i4⟩ ih
 simp only at i1 i2 i3 i4 ⊢
 refine Ret_dec (fun hlt=>?_) fun hge=>?_
 ·have hx:=hp _ (getD_mem (L:=p) (i:=i.toNat) (by omega))
  have:=set_rk hd hp (by omega) (by omega) i4
  rw[show((i.toNat:Nat):Int)=i by omega,show i.toNat+1=(i+1).toNat by omega] at this
  exact Ret_chk (inb_t (by omega) (by omega)) (Ret_chk (inb_t (by omega) (by omega)) (Ret_chk (i64b_t (by omega) (by omega)) (ih _ ⟨by simp only;omega,by simp only;omega,by simp only[List.length_set];exact i3,this⟩ (by simp only;omega))))
 ·exact Ret_some ⟨fun k hk=>i4 k (by omega),i3⟩
theorem sub_of_pairwise {f:Int→Int}:∀ {p l:List Int},p.Pairwise (fun a b=>f a<f b)→l.Pairwise (fun a b=>f a<f b)→(∀x∈l,x∈p)→l.Sublist p
 | _,[],_,_,_=>List.nil_sublist _
 | [],a::l,_,_,h=>absurd (h a List.mem_cons_self) (by simp)
 | a::p,b::l,hp,hl,h=>by
   obtain⟨p1,p2⟩:=List.pairwise_cons.1 hp
   obtain⟨l1,l2⟩:=List.pairwise_cons.1 hl
   by_cases e:b=a
   ·subst e
    refine List.Sublist.cons_cons _ (sub_of_pairwise p2 l2 fun x hx=>?_)
    rcases List.mem_cons.1 (h x (List.mem_cons_of_mem _ hx)) with rfl | h'
    ·have:=l1 _ hx;omega
    ·exact h'
   ·have hb:b∈p:=(List.mem_cons.1 (h b List.mem_cons_self)).resolve_left e
    refine List.Sublist.cons _ (sub_of_pairwise p2 hl fun x hx=>?_)
    rcases List.mem_cons.1 (h x hx) with rfl | h'
    ·exfalso
     have k1:=p1 _ hb
     rcases List.mem_cons.1 hx with rfl | hx
     ·exact e rfl
     ·have:=l1 _ hx;omega
    ·exact h'
end X
end Go.Vm
namespace Go.Vm
namespace X
open W Go.Proofs.St
theorem lab_iff {s:List Int×List Int} (h:Valid s) {t x g:Int} (hx:0≤x∧x<s.1.length) (hg:0≤g):
  lab (endsL s.1) s.1.length t x=g↔(g+1<s.1.length∧(endsL s.1).getD (g.toNat+1) 0=t∧(x=g∨x=g+1)):=by
 have st:=E_step h (i:=x.toNat) (by omega)
 unfold lab
 constructor
 ·intro e
  split at e
  ·split at e
   ·omega
   ·subst e;exact⟨by omega,by assumption,.inl rfl⟩
  ·split at e
   ·split at e
    ·omega
    ·refine⟨by omega,?_,.inr (by omega)⟩
     rw[show g.toNat+1=x.toNat by omega];assumption
   ·omega
 ·rintro ⟨h1,h2,rfl | rfl⟩
  ·rw[if_pos h2,if_neg (by omega)]
  ·rw[show(g+1).toNat=g.toNat+1 by omega] at st ⊢
   rw[if_neg (by omega),if_pos h2,if_neg (by omega)];omega
theorem lab_neg {E:List Int} {n:Nat} {t x:Int} (hx:0≤x):lab E n t x= -1↔(E.getD x.toNat 0≠t∧E.getD (x.toNat+1) 0≠t):=by
 unfold lab
 constructor
 ·intro e
  split at e
  ·split at e<;>omega
  ·split at e
   ·split at e<;>omega
   ·exact⟨by assumption,by assumption⟩
 ·rintro ⟨h1,h2⟩
  rw[if_neg h2,if_neg h1]
theorem lab_ge {E:List Int} {n:Nat} {t x:Int} (hx:0≤x): -2≤lab E n t x:=by
 unfold lab
 split
 ·split<;>omega
 ·split
  ·split<;>omega
  ·omega
theorem map3 {f:Int→Int} {a b c:Int}:∀ {l:List Int},[a,b,c]=l.map f→∃x y z,l=[x,y,z]∧a=f x∧b=f y∧c=f z
 | [],e=>by simp at e
 | [_],e=>by simp at e
 | [_,_],e=>by simp at e
 | [x,y,z],e=>by simp at e;exact⟨x,y,z,rfl,e.1,e.2.1,e.2.2⟩
 | _::_::_::_::_,e=>by simp at e
theorem map4 {f:Int→Int} {a b c d:Int}:∀ {l:List Int},[a,b,c,d]=l.map f→∃x y z w,l=[x,y,z,w]∧a=f x∧b=f y∧c=f z∧d=f w
 | [],e=>by simp at e
 | [_],e=>by simp at e
 | [_,_],e=>by simp at e
 | [_,_,_],e=>by simp at e
 | [x,y,z,w],e=>by simp at e;exact⟨x,y,z,w,rfl,e.1,e.2.1,e.2.2.1,e.2.2.2⟩
 | _::_::_::_::_::_,e=>by simp at e
def Bet (f:Int→Int) (i x:Int):Prop:=min (f i) (f (i+1))<f x∧f x<max (f i) (f (i+1))
def CrossC (E:List Int) (n:Nat) (f:Int→Int):Prop:=∃i:Int,0≤i∧i+1<n∧((∃j:Int,0≤j∧j<n∧frm E j.toNat<E.getD (i.toNat+1) 0∧E.getD (i.toNat+1) 0<too E j.toNat∧Bet f i j)∨
 ∃j:Int,0≤j∧j+1<n∧j≠i∧E.getD (j.toNat+1) 0=E.getD (i.toNat+1) 0∧(E.getD (i.toNat+1) 0<E.getD j.toNat 0↔E.getD (i.toNat+1) 0<E.getD i.toNat 0)∧¬(Bet f i j↔Bet f i (j+1)))
def stk (E p:List Int) (n:Nat) (t u:Int):List Int:=(overL E p u).map (lab E n t)
section
variable {s:List Int×List Int} (h:Valid s) {p:List Int} (hp:Ord s.1.length p) {t u:Int} (hu:u=t-1∨u=t)
include h hp hu
omit h hu in
theorem stk_ge:∀x∈stk (endsL s.1) p s.1.length t u, -2≤x:=fun x hx=>by
 obtain⟨y,hy,rfl⟩:=List.mem_map.1 hx
 exact lab_ge (hp.in y (mem_overL.1 hy).1).1
theorem both_in {g:Int} (hg:0≤g) (h1:g+1<s.1.length) (ht:(endsL s.1).getD (g.toNat+1) 0=t):(g∈overL (endsL s.1) p u↔g+1∈overL (endsL s.1) p u)∧(g∈overL (endsL s.1) p u↔(t< (endsL s.1).getD g.toNat 0↔u=t)):=by
 have s1:=E_step h (i:=g.toNat) (by omega)
 have s2:=E_step h (i:=g.toNat+1) (by omega)
 have m1:g∈p:=hp.mem_iff.2 (mem_idL.2 ⟨hg,by omega⟩)
 have m2:g+1∈p:=hp.mem_iff.2 (mem_idL.2 ⟨by omega,by omega⟩)
 simp only[mem_overL,m1,m2,true_and]
 rw[show(g+1).toNat=g.toNat+1 by omega]
 unfold frm too
 rw[ht] at s1 s2 ⊢
 rcases hu with rfl | rfl<;>constructor<;>constructor<;>intro h'<;>(try constructor)<;>omega
theorem twice_stk:Twice (stk (endsL s.1) p s.1.length t u):=fun g hg hm=>by
 obtain⟨y,hy,e⟩:=List.mem_map.1 hm
 have hyi:=hp.in y (mem_overL.1 hy).1
 obtain⟨h1,h2,h3⟩:=(lab_iff h hyi hg).1 e
 obtain⟨b1,b2⟩:=both_in h hp hu hg h1 h2
 have m1:g∈overL (endsL s.1) p u:=by
  rcases h3 with rfl | rfl
  ·exact hy
  ·exact b1.2 hy
 have m2:=b1.1 m1
 have hnd:(overL (endsL s.1) p u).Nodup:=overL_nodup hp.nodup
 have e2:=ab_eq (a:=g) (c:=g+1) hnd
 rw[if_neg (by omega),if_pos m1,if_pos m2] at e2
 unfold stk
 rw[List.count_eq_countP,List.countP_map,List.countP_eq_length_filter]
 unfold ab at e2
 show _=1+1
 rw[←e2]
 congr 1
 refine List.filter_congr fun x hx=>?_
 have hxi:=hp.in x (mem_overL.1 hx).1
 have:=lab_iff h (t:=t) hxi hg
 simp only[Function.comp]
 rw[Bool.eq_iff_iff]
 simp only[beq_iff_eq,Bool.or_eq_true,decide_eq_true_eq]
 rw[this]
 exact⟨fun h=>h.2.2,fun h'=>⟨h1,h2,h'⟩⟩
theorem fits_iff:fitsG [] (stk (endsL s.1) p s.1.length t u)=true↔¬BadW (stk (endsL s.1) p s.1.length t u):=by
 have:=fitsG_iff (stk (endsL s.1) p s.1.length t u) [] List.nodup_nil (by simp) (stk_ge hp) (by rw[List.nil_append];exact twice_stk h hp hu)
 rwa[List.nil_append] at this
variable {f:Int→Int} (hf:p.Pairwise fun a b=>f a<f b)
include hf
theorem cross_of_bad:BadW (stk (endsL s.1) p s.1.length t u)→CrossC (endsL s.1) s.1.length f:=by
 have hov:(overL (endsL s.1) p u).Sublist p:=List.filter_sublist
 have inn:∀x∈overL (endsL s.1) p u,0≤x∧x<s.1.length:=fun x hx=>hp.in x (mem_overL.1 hx).1
 rintro ⟨c,hc,hs | ⟨d,hd,hdc,hs⟩⟩
 ·obtain⟨l',hl,e⟩:=List.sublist_map_iff.1 hs
  obtain⟨x,z,y,rfl,e1,e2,e3⟩:=map3 e
  ·skip
   have pw:=(hf.sublist (hl.trans hov))
   simp only[List.pairwise_cons,List.mem_cons,List.not_mem_nil,or_false,forall_eq_or_imp,forall_eq] at pw
   have mx:=hl.subset (show x∈[x,z,y] by simp)
   have mz:=hl.subset (show z∈[x,z,y] by simp)
   have my:=hl.subset (show y∈[x,z,y] by simp)
   have ix:=inn x mx
   have iz:=inn z mz
   have iy:=inn y my
   obtain⟨g1,g2,g3⟩:=(lab_iff h ix hc).1 e1.symm
   obtain⟨_,_,g4⟩:=(lab_iff h iy hc).1 e3.symm
   obtain⟨n1,n2⟩:=(lab_neg iz.1).1 e2.symm
   have oz:=(mem_overL.1 mz).2
   have xy:x≠y:=fun e=>by subst e;omega
   refine⟨c,hc,g1,.inl ⟨z,iz.1,iz.2,?_,?_,?_⟩⟩
   ·rw[g2];unfold frm too at *;omega
   ·rw[g2];unfold frm too at *;omega
   ·unfold Bet
    rcases g3 with rfl | rfl<;>rcases g4 with rfl | rfl
    ·exact absurd rfl xy
    ·omega
    ·omega
    ·exact absurd rfl xy
 ·obtain⟨l',hl,e⟩:=List.sublist_map_iff.1 hs
  obtain⟨x,v,y,w,rfl,e1,e2,e3,e4⟩:=map4 e
  ·skip
   have pw:=(hf.sublist (hl.trans hov))
   simp only[List.pairwise_cons,List.mem_cons,List.not_mem_nil,or_false,forall_eq_or_imp,forall_eq] at pw
   have mx:=hl.subset (show x∈[x,v,y,w] by simp)
   have mv:=hl.subset (show v∈[x,v,y,w] by simp)
   have my:=hl.subset (show y∈[x,v,y,w] by simp)
   have mw:=hl.subset (show w∈[x,v,y,w] by simp)
   obtain⟨g1,g2,g3⟩:=(lab_iff h (inn x mx) hc).1 e1.symm
   obtain⟨_,_,g4⟩:=(lab_iff h (inn y my) hc).1 e3.symm
   obtain⟨k1,k2,k3⟩:=(lab_iff h (inn v mv) hd).1 e2.symm
   obtain⟨_,_,k4⟩:=(lab_iff h (inn w mw) hd).1 e4.symm
   have xy:x≠y:=fun e=>by subst e;omega
   have vw:v≠w:=fun e=>by subst e;omega
   obtain⟨b1,b2⟩:=both_in h hp hu hc g1 g2
   obtain⟨b3,b4⟩:=both_in h hp hu hd k1 k2
   have mc:c∈overL (endsL s.1) p u:=by
    rcases g3 with rfl | rfl
    ·exact mx
    ·exact b1.2 mx
   have md:d∈overL (endsL s.1) p u:=by
    rcases k3 with rfl | rfl
    ·exact mv
    ·exact b3.2 mv
   have q1:=b2.1 mc
   have q2:=b4.1 md
   refine⟨c,hc,g1,.inr ⟨d,hd,k1,hdc,by rw[g2,k2],by rw[g2,q1,q2],?_⟩⟩
   unfold Bet
   rcases g3 with rfl | rfl<;>rcases g4 with rfl | rfl<;>rcases k3 with rfl | rfl<;>rcases k4 with rfl | rfl<;>first | exact absurd rfl xy | exact absurd rfl vw | omega
end
theorem eight {a b c d:Int} (d1:a<c∨c<a) (d2:a<d∨d<a) (d3:b<c∨c<b) (d4:b<d∨d<b) (d5:a<b∨b<a) (d6:c<d∨d<c) (h:¬((min a b<c∧c<max a b)↔(min a b<d∧d<max a b))):
  (a<c∧c<b∧b<d)∨(a<d∧d<b∧b<c)∨(b<c∧c<a∧a<d)∨(b<d∧d<a∧a<c)∨(c<a∧a<d∧d<b)∨(c<b∧b<d∧d<a)∨(d<a∧a<c∧c<b)∨(d<b∧b<c∧c<a):=by
 by_cases hc:min a b<c∧c<max a b<;>by_cases hd:min a b<d∧d<max a b
 ·exact absurd ⟨fun _=>hd,fun _=>hc⟩ h
 ·clear h d6
  rcases d5 with d5 | d5
  ·have k1:a<c∧c<b:=by omega
   have k2:d<a∨b<d:=by omega
   clear hc hd d1 d2 d3 d4
   rcases k2 with k2 | k2
   ·exact(.inr (.inr (.inr (.inr (.inr (.inr (.inl ⟨by omega,by omega,by omega⟩)))))))
   ·exact(.inl ⟨by omega,by omega,by omega⟩)
  ·have k1:b<c∧c<a:=by omega
   have k2:d<b∨a<d:=by omega
   clear hc hd d1 d2 d3 d4
   rcases k2 with k2 | k2
   ·exact(.inr (.inr (.inr (.inr (.inr (.inr (.inr ⟨by omega,by omega,by omega⟩)))))))
   ·exact(.inr (.inr (.inl ⟨by omega,by omega,by omega⟩)))
 ·clear h d6
  rcases d5 with d5 | d5
  ·have k1:a<d∧d<b:=by omega
   have k2:c<a∨b<c:=by omega
   clear hc hd d1 d2 d3 d4
   rcases k2 with k2 | k2
   ·exact(.inr (.inr (.inr (.inr (.inl ⟨by omega,by omega,by omega⟩)))))
   ·exact(.inr (.inl ⟨by omega,by omega,by omega⟩))
  ·have k1:b<d∧d<a:=by omega
   have k2:c<b∨a<c:=by omega
   clear hc hd d1 d2 d3 d4
   rcases k2 with k2 | k2
   ·exact(.inr (.inr (.inr (.inr (.inr (.inl ⟨by omega,by omega,by omega⟩))))))
   ·exact(.inr (.inr (.inr (.inl ⟨by omega,by omega,by omega⟩))))
 ·exact absurd ⟨fun h=>absurd h hc,fun h=>absurd h hd⟩ h
set_option maxHeartbeats 1000000 in
theorem bad_of_cross {s:List Int×List Int} (h:Valid s) {p:List Int} (hp:Ord s.1.length p) {f:Int→Int} (hf:p.Pairwise fun a b=>f a<f b) (hc:CrossC (endsL s.1) s.1.length f):
  ∃i:Nat,i+1<s.1.length∧∃u,(u=(endsL s.1).getD (i+1) 0-1∨u=(endsL s.1).getD (i+1) 0)∧BadW (stk (endsL s.1) p s.1.length ((endsL s.1).getD (i+1) 0) u):=by
 have inj:∀x y:Int,0≤x→x<s.1.length→0≤y→y<s.1.length→x≠y→f x<f y∨f y<f x:=fun x y hx hx' hy hy' hxy=>by
  have mx:x∈p:=hp.mem_iff.2 (mem_idL.2 ⟨hx,hx'⟩)
  have my:y∈p:=hp.mem_iff.2 (mem_idL.2 ⟨hy,hy'⟩)
  obtain⟨i,hi,rfl⟩:=List.mem_iff_getElem.1 mx
  obtain⟨j,hj,rfl⟩:=List.mem_iff_getElem.1 my
  have:=List.pairwise_iff_getElem.1 hf
  rcases Nat.lt_trichotomy i j with e | e | e
  ·exact .inl (this i j hi hj e)
  ·subst e;exact absurd rfl hxy
  ·exact .inr (this j i hj hi e)
 obtain⟨i,hi0,hi1,hh⟩:=hc
 have ei:(i.toNat:Int)=i:=by omega
 refine⟨i.toNat,by omega,?_⟩
 have s1:=E_step h (i:=i.toNat) (by omega)
 have s2:=E_step h (i:=i.toNat+1) (by omega)
 generalize ht:(endsL s.1).getD (i.toNat+1) 0=t at *
 have hov:∀u,(overL (endsL s.1) p u).Pairwise (fun a b=>f a<f b):=fun u=>hf.sublist List.filter_sublist
 have l1:∀x:Int,x=i∨x=i+1→lab (endsL s.1) s.1.length t x=i:=fun x hx=>(lab_iff h (by omega) hi0).2 ⟨hi1,ht,hx⟩
 refine⟨if t< (endsL s.1).getD i.toNat 0 then t else t-1,by split<;>omega,?_⟩
 generalize hu:(if t< (endsL s.1).getD i.toNat 0 then t else t-1)=u
 have hu':u=t-1∨u=t:=by rw[←hu];split<;>omega
 have hut:u=t↔t< (endsL s.1).getD i.toNat 0:=by rw[←hu];split<;>omega
 obtain⟨b1,b2⟩:=both_in h hp hu' hi0 hi1 ht
 have mi:i∈overL (endsL s.1) p u:=b2.2 hut.symm
 have mi1:=b1.1 mi
 rcases hh with⟨j,j0,j1,j2,j3,j4⟩ | ⟨j,j0,j1,j2,j3,j4,j5⟩
 ·have mj:j∈overL (endsL s.1) p u:=mem_overL.2 ⟨hp.mem_iff.2 (mem_idL.2 ⟨j0,j1⟩),by omega,by omega⟩
  have lj:lab (endsL s.1) s.1.length t j= -1:=(lab_neg j0).2 (by unfold frm too at *;omega)
  have key:∀x y,(x=i∧y=i+1)∨(x=i+1∧y=i)→f x<f j→f j<f y→BadW (stk (endsL s.1) p s.1.length t u):=fun x y hxy g1 g2=>by
   refine⟨i,hi0,.inl ?_⟩
   have mx:x∈overL (endsL s.1) p u:=by rcases hxy with⟨rfl,_⟩ | ⟨rfl,_⟩<;>assumption
   have my:y∈overL (endsL s.1) p u:=by rcases hxy with⟨_,rfl⟩ | ⟨_,rfl⟩<;>assumption
   have:=(sub_of_pairwise (l:=[x,j,y]) (hov u) (by simp;omega) (by simp[mx,mj,my])).map (lab (endsL s.1) s.1.length t)
   simp only[List.map_cons,List.map_nil] at this
   rw[l1 x (by omega),l1 y (by omega),lj] at this
   exact this
  unfold Bet at j4
  rcases Int.lt_or_le (f i) (f (i+1)) with g | g
  ·exact key i (i+1) (.inl ⟨rfl,rfl⟩) (by omega) (by omega)
  ·exact key (i+1) i (.inr ⟨rfl,rfl⟩) (by omega) (by omega)
 ·have s3:=E_step h (i:=j.toNat) (by omega)
  obtain⟨c1,c2⟩:=both_in h hp hu' j0 j1 j3
  have mj:j∈overL (endsL s.1) p u:=c2.2 (by rw[j4,hut])
  have mj1:=c1.1 mj
  have l2:∀x:Int,x=j∨x=j+1→lab (endsL s.1) s.1.length t x=j:=fun x hx=>(lab_iff h (by omega) j0).2 ⟨j1,j3,hx⟩
  have nadj:j≠i+1∧i≠j+1:=by
   constructor
   ·rintro rfl
    rw[show(i+1).toNat+1=i.toNat+1+1 by omega] at j3
    omega
   ·rintro rfl
    rw[show(j+1).toNat=j.toNat+1 by omega,j3] at s1
    omega
  have d1:=inj i j hi0 (by omega) j0 (by omega) (fun e=>j2 e.symm)
  have d2:=inj i (j+1) hi0 (by omega) (by omega) (by omega) nadj.2
  have d3:=inj (i+1) j (by omega) (by omega) j0 (by omega) (fun e=>nadj.1 e.symm)
  have d4:=inj (i+1) (j+1) (by omega) (by omega) (by omega) (by omega) (by omega)
  have d5:=inj i (i+1) (by omega) (by omega) (by omega) (by omega) (by omega)
  have d6:=inj j (j+1) (by omega) (by omega) (by omega) (by omega) (by omega)
  have key:∀a b:Int,0≤a→0≤b→b≠a→∀x v y w:Int,lab (endsL s.1) s.1.length t x=a→lab (endsL s.1) s.1.length t y=a→lab (endsL s.1) s.1.length t v=b→lab (endsL s.1) s.1.length t w=b→x∈overL (endsL s.1) p u→v∈overL (endsL s.1) p u→y∈overL (endsL s.1) p u→w∈overL (endsL s.1) p u→f x<f v→f v<f y→f y<f w→BadW (stk (endsL s.1) p s.1.length t u):=fun a b ha hb hab x v y w lx ly lv lw mx mv my mw g1 g2 g3=>by
   refine⟨a,ha,.inr ⟨b,hb,hab,?_⟩⟩
   have:=(sub_of_pairwise (l:=[x,v,y,w]) (hov u) (by simp;omega) (by simp[mx,mv,my,mw])).map (lab (endsL s.1) s.1.length t)
   simp only[List.map_cons,List.map_nil] at this
   rw[lx,ly,lv,lw] at this
   exact this
  have k1:=fun x v y w (hx:x=i∨x=i+1) (hv:v=j∨v=j+1) (hy:y=i∨y=i+1) (hw:w=j∨w=j+1)=>key i j hi0 j0 j2 x v y w (l1 x hx) (l1 y hy) (l2 v hv) (l2 w hw) (by rcases hx with rfl | rfl<;>assumption) (by rcases hv with rfl | rfl<;>assumption) (by rcases hy with rfl | rfl<;>assumption) (by rcases hw with rfl | rfl<;>assumption)
  have k2:=fun x v y w (hx:x=j∨x=j+1) (hv:v=i∨v=i+1) (hy:y=j∨y=j+1) (hw:w=i∨w=i+1)=>key j i j0 hi0 (fun e=>j2 e.symm) x v y w (l2 x hx) (l2 y hy) (l1 v hv) (l1 w hw) (by rcases hx with rfl | rfl<;>assumption) (by rcases hv with rfl | rfl<;>assumption) (by rcases hy with rfl | rfl<;>assumption) (by rcases hw with rfl | rfl<;>assumption)
  unfold Bet at j5
  have fin:=eight d1 d2 d3 d4 d5 d6 j5
  rcases fin with⟨g1,g2,g3⟩ | ⟨g1,g2,g3⟩ | ⟨g1,g2,g3⟩ | ⟨g1,g2,g3⟩ | ⟨g1,g2,g3⟩ | ⟨g1,g2,g3⟩ | ⟨g1,g2,g3⟩ | ⟨g1,g2,g3⟩
  ·exact k1 i j (i+1) (j+1) (.inl rfl) (.inl rfl) (.inr rfl) (.inr rfl) g1 g2 g3
  ·exact k1 i (j+1) (i+1) j (.inl rfl) (.inr rfl) (.inr rfl) (.inl rfl) g1 g2 g3
  ·exact k1 (i+1) j i (j+1) (.inr rfl) (.inl rfl) (.inl rfl) (.inr rfl) g1 g2 g3
  ·exact k1 (i+1) (j+1) i j (.inr rfl) (.inr rfl) (.inl rfl) (.inl rfl) g1 g2 g3
  ·exact k2 j i (j+1) (i+1) (.inl rfl) (.inl rfl) (.inr rfl) (.inr rfl) g1 g2 g3
  ·exact k2 j (i+1) (j+1) i (.inl rfl) (.inr rfl) (.inr rfl) (.inl rfl) g1 g2 g3
  ·exact k2 (j+1) i j (i+1) (.inr rfl) (.inl rfl) (.inl rfl) (.inr rfl) g1 g2 g3
  ·exact k2 (j+1) (i+1) j i (.inr rfl) (.inr rfl) (.inl rfl) (.inl rfl) g1 g2 g3
end X
end Go.Vm
namespace Go.Vm
namespace X
open W Go.Proofs.St
theorem Ret_list {ι σ β:Type} {done:σ→Option β} {step:ι→(σ→Option β)→σ→Option β} {Q:β→Prop} (Inv:List ι→σ→Prop) (h0:∀x,Inv [] x→Ret (done x) Q)
  (h1:∀y l rec x,Inv (y::l) x→(∀x',Inv l x'→Ret (rec x') Q)→Ret (step y rec x) Q):∀l x,Inv l x→Ret (listF done step l x) Q
 | [],x,h=>h0 x h
 | y::l,x,h=>h1 y l _ x h fun x' h'=>Ret_list Inv h0 h1 l x' h'
theorem contains_ok {p:List Int} (hl:p.length≤10000) (x:Int):slices_Contains_int fuel (p,x)=some (decide (x∈p)):=by
 apply Ret.eq
 unfold slices_Contains_int slices_Index_int
 refine Ret_bind (Q1:=fun r:Int=>(0≤r↔x∈p)) ?_ fun r h=>Ret_some (by
  by_cases e:x∈p
  ·rw[decide_eq_true (h.2 e),decide_eq_true e]
  ·rw[decide_eq_false (fun h'=>e (h.1 h')),decide_eq_false e])
 refine Ret_loop (Inv:=fun i:Int=>0≤i∧i≤p.length∧∀k:Nat,(k:Int)<i→p.getD k 0≠x) (m:=fun i=>((p.length:Int)-i).toNat) ?_ _ _ ⟨by simp,by simp,fun k h=>by omega⟩ (by simp only[fuel];omega)
 rintro i rec ⟨i1,i2,i3⟩ ih
 simp only
 refine Ret_dec (fun hlt=>?_) fun hge=>?_
 ·refine Ret_chk (inb_t (by omega) (by omega)) (Ret_dec (fun e=>Ret_some ⟨fun _=>by rw[e];exact getD_mem (by omega),fun _=>i1⟩) fun e=>Ret_chk (i64b_t (by omega) (by omega)) (ih _ ⟨by omega,by omega,fun k hk=>?_⟩ (by omega)))
  by_cases e':(k:Int)=i
  ·rw[show k=i.toNat by omega];exact fun h=>e h.symm
  ·exact i3 k (by omega)
 ·exact Ret_some ⟨fun h=>absurd h (by omega),fun h=>absurd h (not_mem_getD fun k hk=>i3 k (by omega))⟩
theorem perm_of_sub:∀ {l p:List Int},l.Nodup→(∀x∈l,x∈p)→∃q,p.Perm (l++q)
 | [],p,_,_=>⟨p,List.Perm.refl _⟩
 | a::l,p,hn,h=>by
   obtain⟨h1,h2⟩:=List.nodup_cons.1 hn
   have ha:=h a List.mem_cons_self
   obtain⟨q,hq⟩:=perm_of_sub (l:=l) (p:=p.erase a) h2 fun x hx=>(List.mem_erase_of_ne (fun e:x=a=>h1 (by rw[←e];exact hx))).2 (h x (List.mem_cons_of_mem _ hx))
   exact⟨q,(List.perm_cons_erase ha).trans (hq.cons a)⟩
theorem ord_of {n:Nat} {p:List Int} (hl:p.length=n) (h:∀i:Nat,i<n→(i:Int)∈p):Ord n p:=by
 obtain⟨q,hq⟩:=perm_of_sub (idL_nodup n) (p:=p) fun x hx=>by
  have:=mem_idL.1 hx
  have:=h x.toNat (by omega)
  rwa[show((x.toNat:Nat):Int)=x by omega] at this
 have:=hq.length_eq
 rw[List.length_append,idL_len] at this
 have:q=[]:=List.eq_nil_of_length_eq_zero (by omega)
 subst this
 rw[List.append_nil] at hq
 exact hq
open Classical in
noncomputable def lsE (s:List Int×List Int) (p:List Int):Int:=if ckS s≠0 then ckS s else if p.length≠s.1.length then 5 else if Ord s.1.length p then 0 else 1
theorem listed_ok {s:List Int×List Int} (h:s.2.length≤1000) {p:List Int} (hl:p.length≤10000):piles_listed fuel (s,p)=some ((s,if ckS s=0 then endsL s.1 else []),lsE s p):=by
 classical
 apply Ret.eq
 unfold piles_listed
 by_cases hv:ckS s=0
 ·have hv':=ckS_valid.1 hv
  rw[show(s.1,s.2)=s from rfl,of_ok hv',if_pos hv]
  simp only[Option.bind_some]
  have e0:lsE s p=if p.length≠s.1.length then 5 else if Ord s.1.length p then 0 else 1:=by unfold lsE;rw[if_neg (fun h=>h hv)]
  rw[e0]
  refine Ret_dec (fun g=>absurd rfl g) fun _=>Ret_dec (fun g=>Ret_chk (by simp[capIs]) (Ret_some (by rw[if_pos (fun e=>g (by rw[e]))]))) fun g=>?_
  have hle:p.length=s.1.length:=by omega
  rw[if_neg (fun h=>h hle)]
  refine Ret_loop (Inv:=fun x:Int×(Unit×(Unit×Unit))=>0≤x.1∧x.1≤p.length∧∀k:Nat,(k:Int)<x.1→(k:Int)∈p) (m:=fun x=>((p.length:Int)-x.1).toNat) ?_ _ _ ⟨by simp,by simp,fun k h=>by simp at h;omega⟩ (by simp only[fuel];omega)
  rintro ⟨i,_⟩ rec ⟨i1,i2,i3⟩ ih
  simp only at i1 i2 i3 ⊢
  refine Ret_dec (fun hlt=>?_) fun hge=>?_
  ·rw[contains_ok hl,Option.bind_some]
   by_cases hm:i∈p
   ·rw[decide_eq_true hm]
    refine Ret_chk (i64b_t (by omega) (by omega)) (ih _ ⟨by simp only;omega,by simp only;omega,fun k hk=>?_⟩ (by simp only;omega))
    simp only at hk
    by_cases e:(k:Int)=i
    ·rw[e];exact hm
    ·exact i3 k (by omega)
   ·rw[decide_eq_false hm]
    refine Ret_chk (by simp[capIs]) (Ret_some ?_)
    rw[if_neg]
    intro ho
    exact hm (ho.mem_iff.2 (mem_idL.2 ⟨i1,by omega⟩))
  ·refine Ret_chk (by simp[capIs]) (Ret_some ?_)
   rw[if_pos (ord_of hle fun k hk=>i3 k (by omega))]
 ·rw[show(s.1,s.2)=s from rfl,of_err h hv,if_neg hv]
  simp only[Option.bind_some]
  refine Ret_dec (fun _=>Ret_chk (by simp[capIs]) (Ret_some (by unfold lsE;rw[if_pos hv]))) fun g=>absurd hv g
theorem lsE_ord {s:List Int×List Int} (h:Valid s) {p:List Int} (hp:Ord s.1.length p):lsE s p=0:=by
 unfold lsE
 rw[if_neg (fun g=>g (ckS_valid.2 h)),if_neg (fun g=>g hp.len),if_pos hp]
theorem listed_ord {s:List Int×List Int} (h:Valid s) {p:List Int} (hp:Ord s.1.length p):piles_listed fuel (s,p)=some ((s,endsL s.1),0):=by
 have h1:=h.1
 have h2:=h.2.1
 rw[listed_ok (by omega) (by rw[hp.len];omega),if_pos (ckS_valid.2 h),lsE_ord h hp]
theorem between_ok {r:List Int} {i:Int} (h0:0≤i) (h1:i+1<32) (v:Int):piles_between fuel (r,(i,v))=some (decide (min (r.getD i.toNat 0) (r.getD (i+1).toNat 0)<v∧v<max (r.getD i.toNat 0) (r.getD (i+1).toNat 0))):=by
 unfold piles_between
 simp only
 rw[chk_t (inb_t h0 (by omega)),chk_t (i64b_t (by omega) (by omega)),chk_t (inb_t (by omega) (by omega)),chk_t (inb_t h0 (by omega)),chk_t (i64b_t (by omega) (by omega)),chk_t (inb_t (by omega) (by omega))]
 by_cases g:min (r.getD i.toNat 0) (r.getD (i+1).toNat 0)<v
 ·rw[decide_eq_true g,cond_true]
  congr 1
  rw[Bool.eq_iff_iff,decide_eq_true_eq,decide_eq_true_eq]
  exact⟨fun h=>⟨g,h⟩,fun h=>h.2⟩
 ·rw[decide_eq_false g,cond_false]
  congr 1
  symm
  exact decide_eq_false fun h=>g h.1
def kindF (f:Int→Int) (i:Int):Int:=if f (i+i%2)<f (i+1-i%2) then 2 else 1
theorem kind_ok {r:List Int} {i:Int} (h0:0≤i) (h1:i+1<32):piles_kind fuel (r,i)=some (kindF (fun x=>r.getD x.toNat 0) i):=by
 unfold piles_kind kindF
 simp only
 rw[chk_t (i64b_t (by omega) (by omega)),chk_t (by rw[Bool.and_eq_true];exact⟨decide_eq_true (by omega),rfl⟩),chk_t (i64b_t (by omega) (by omega)),chk_t (inb_t (by omega) (by omega)),chk_t (i64b_t (by omega) (by omega)),chk_t (i64b_t (by omega) (by omega)),chk_t (i64b_t (by omega) (by omega)),chk_t (inb_t (by omega) (by omega))]
 rw[show 2*i+1-(i+1-i%2)=i+i%2 by omega]
 by_cases g:r.getD (i+i%2).toNat 0<r.getD (i+1-i%2).toNat 0
 ·rw[decide_eq_true g,cond_true,if_pos g]
 ·rw[decide_eq_false g,cond_false,if_neg g]
def CrossA (E:List Int) (n:Nat) (f:Int→Int) (i:Int):Prop:=(∃j:Int,0≤j∧j<n∧frm E j.toNat<E.getD (i.toNat+1) 0∧E.getD (i.toNat+1) 0<too E j.toNat∧Bet f i j)∨
 ∃j:Int,0≤j∧j+1<n∧j≠i∧E.getD (j.toNat+1) 0=E.getD (i.toNat+1) 0∧(E.getD (i.toNat+1) 0<E.getD j.toNat 0↔E.getD (i.toNat+1) 0<E.getD i.toNat 0)∧¬(Bet f i j↔Bet f i (j+1))
theorem mem_loop {k:Nat} {E:List Int} {t:Int} {rt:Bool} {x:Int}:x∈(loopL k E t rt).map (fun(i:Nat)=>(i:Int))↔0≤x∧x<k∧E.getD (x.toNat+1) 0=t∧decide (t<E.getD x.toNat 0)=rt:=by
 simp only[loopL,List.mem_map,List.mem_filter,List.mem_range,loopP,Bool.and_eq_true,decide_eq_true_eq,beq_iff_eq]
 constructor
 ·rintro ⟨a,⟨h1,h2,h3⟩,rfl⟩
  rw[Int.toNat_natCast]
  exact⟨by omega,by omega,h2,h3⟩
 ·rintro ⟨h1,h2,h3,h4⟩
  exact⟨x.toNat,⟨by omega,h3,h4⟩,by omega⟩
instance (f:Int→Int) (i x:Int):Decidable (Bet f i x):=by unfold Bet;infer_instance
theorem crosses_ok {s:List Int×List Int} (h:Valid s) {r:List Int} (hr:r.length=32):Ret (piles_folded_crosses fuel ((s,endsL s.1),r)) fun b=>(b=true↔CrossC (endsL s.1) s.1.length fun x=>r.getD x.toNat 0):=by
 have hel:=endsL_len s.1
 have hn:=h.1
 have hk:=h.2.1
 generalize hf:(fun x:Int=>r.getD x.toNat 0)=f
 have hfx:∀x:Int,r.getD x.toNat 0=f x:=fun x=>by rw[←hf]
 unfold piles_folded_crosses
 refine Ret_loop (Inv:=fun x:Int×(Bool×Unit)=>0≤x.1∧x.1≤s.2.length∧x.2.1=false∧∀i:Int,0≤i→i<x.1→¬CrossA (endsL s.1) s.1.length f i) (m:=fun x=>((s.2.length:Int)-x.1).toNat) ?_ _ _ ⟨by simp,by simp,rfl,fun i a b=>by simp at b;omega⟩ (by simp only[fuel];omega)
 rintro ⟨i,bad,_⟩ rec ⟨i1,i2,i3,i4⟩ ih
 simp only at i1 i2 i3 i4 ⊢
 subst i3
 refine Ret_dec (fun hlt=>?_) fun hge=>?_
 ·have ei:(i+1).toNat=i.toNat+1:=by omega
  have found:CrossA (endsL s.1) s.1.length f i→Ret (some true) fun b=>(b=true↔CrossC (endsL s.1) s.1.length f):=fun hc=>Ret_some ⟨fun _=>⟨i,i1,by omega,hc⟩,fun _=>rfl⟩
  refine Ret_chk (i64b_t (by omega) (by omega)) (Ret_chk (inb_t (by omega) (by omega)) ?_)
  rw[ei]
  have bt:∀x:Int,piles_between fuel (r,(i,f x))=some (decide (Bet f i x)):=fun x=>by
   rw[between_ok i1 (by omega)]
   rw[hfx,hfx]
   rfl
  refine Ret_loop (Inv:=fun x:Int×(Bool×Unit)=>0≤x.1∧x.1≤s.1.length∧x.2.1=false∧∀j:Int,0≤j→j<x.1→¬(frm (endsL s.1) j.toNat< (endsL s.1).getD (i.toNat+1) 0∧(endsL s.1).getD (i.toNat+1) 0<too (endsL s.1) j.toNat∧Bet f i j)) (m:=fun x=>((s.1.length:Int)-x.1).toNat) ?_ _ _ ⟨by simp,by simp,rfl,fun i a b=>by simp at b;omega⟩ (by simp only[fuel];omega)
  rintro ⟨j,bad,_⟩ rec2 ⟨j1,j2,j3,j4⟩ ih2
  simp only at j1 j2 j3 j4 ⊢
  subst j3
  refine Ret_dec (fun hlt2=>?_) fun hge2=>?_
  ·have nxt:¬(frm (endsL s.1) j.toNat< (endsL s.1).getD (i.toNat+1) 0∧(endsL s.1).getD (i.toNat+1) 0<too (endsL s.1) j.toNat∧Bet f i j)→Ret (chk (i64b (j+1)) (rec2 (j+1,(false,())))) fun b=>(b=true↔CrossC (endsL s.1) s.1.length f):=fun hc=>by
    refine Ret_chk (i64b_t (by omega) (by omega)) (ih2 _ ⟨by simp only;omega,by simp only;omega,rfl,fun j' a b=>?_⟩ (by simp only;omega))
    simp only at b
    by_cases e:j'=j
    ·subst e;exact hc
    ·exact j4 j' a (by omega)
   rw[from_ok j1 (by omega) (by omega),Option.bind_some]
   refine Ret_dec (fun g1=>?_) fun g1=>nxt fun hh=>g1 hh.1
   rw[to_ok j1 (by omega) (by omega),Option.bind_some]
   refine Ret_dec (fun g2=>?_) fun g2=>nxt fun hh=>g2 hh.2.1
   refine Ret_chk (inb_t (by omega) (by omega)) ?_
   rw[hfx,bt,Option.bind_some]
   refine Ret_dec (fun g3=>found (.inl ⟨j,j1,by omega,g1,g2,g3⟩)) fun g3=>nxt fun hh=>g3 hh.2.2
  ·refine Ret_chk (inb_t (by omega) (by omega)) ?_
   have hla:¬ ∃j:Int,0≤j∧j<s.1.length∧frm (endsL s.1) j.toNat< (endsL s.1).getD (i.toNat+1) 0∧(endsL s.1).getD (i.toNat+1) 0<too (endsL s.1) j.toNat∧Bet f i j:=fun⟨j',a,b,c⟩=>j4 j' a (by omega) c
   unfold loopRun
   simp only
   rw[show(Nat.blt (List.length (α:=Int) s.2) (List.length (α:=Int) (endsL s.1))&&Nat.ble (List.length (α:=Int) (endsL s.1)) 1000000)=true by
    simp[Nat.blt_eq]
    omega,cond_true,Option.bind_some]
   refine Ret_list (Inv:=fun(l:List Int) (x:Bool×Unit)=>x.1=false∧(∀y∈l,0≤y∧y<s.2.length∧(endsL s.1).getD (y.toNat+1) 0=(endsL s.1).getD (i.toNat+1) 0∧decide ((endsL s.1).getD (i.toNat+1) 0< (endsL s.1).getD y.toNat 0)=decide ((endsL s.1).getD (i.toNat+1) 0< (endsL s.1).getD i.toNat 0))∧
    ∀j:Int,0≤j→j<s.2.length→j≠i→(endsL s.1).getD (j.toNat+1) 0=(endsL s.1).getD (i.toNat+1) 0→decide ((endsL s.1).getD (i.toNat+1) 0< (endsL s.1).getD j.toNat 0)=decide ((endsL s.1).getD (i.toNat+1) 0< (endsL s.1).getD i.toNat 0)→(Bet f i j↔Bet f i (j+1))∨j∈l) ?_ ?_ _ _ ⟨rfl,fun y hy=>mem_loop.1 hy,fun j a b c d e=>.inr (mem_loop.2 ⟨a,b,d,e⟩)⟩
   ·rintro ⟨bad,_⟩ ⟨k1,_,k2⟩
    simp only at k1
    subst k1
    refine Ret_chk (i64b_t (by omega) (by omega)) (ih _ ⟨by simp only;omega,by simp only;omega,rfl,fun i' a b=>?_⟩ (by simp only;omega))
    simp only at b
    by_cases e:i'=i
    ·subst e
     rintro (hh | ⟨j,a1,a2,a3,a4,a5,a6⟩)
     ·exact hla hh
     ·rcases k2 j a1 (by omega) a3 a4 (by rw[decide_eq_decide];exact a5) with hh | hh
      ·exact a6 hh
      ·cases hh
    ·exact i4 i' a (by omega)
   ·rintro y l rec3 ⟨bad,_⟩ ⟨k1,k2,k3⟩ ih3
    simp only at k1
    subst k1
    obtain⟨y0,y1,y2,y3⟩:=k2 y List.mem_cons_self
    have nxt:(y≠i→(Bet f i y↔Bet f i (y+1)))→Ret (rec3 (false,())) fun b=>(b=true↔CrossC (endsL s.1) s.1.length f):=fun hc=>by
     refine ih3 _ ⟨rfl,fun z hz=>k2 z (List.mem_cons_of_mem _ hz),fun j a b c d e=>?_⟩
     rcases k3 j a b c d e with hh | hh
     ·exact .inl hh
     ·rcases List.mem_cons.1 hh with rfl | hh
      ·exact .inl (hc c)
      ·exact .inr hh
    refine Ret_dec (fun g=>?_) fun g=>nxt fun hh=>absurd hh g
    refine Ret_chk (inb_t (by omega) (by omega)) ?_
    rw[hfx,bt,Option.bind_some]
    refine Ret_chk (i64b_t (by omega) (by omega)) (Ret_chk (inb_t (by omega) (by omega)) ?_)
    rw[hfx,bt,Option.bind_some]
    by_cases e:Bet f i y↔Bet f i (y+1)
    ·rw[show(decide (Bet f i y)==decide (Bet f i (y+1)))=true by rw[beq_iff_eq,decide_eq_decide];exact e]
     exact nxt fun _=>e
    ·rw[show(decide (Bet f i y)==decide (Bet f i (y+1)))=false by rw[beq_eq_false_iff_ne,ne_eq,decide_eq_decide];exact e]
     exact found (.inr ⟨y,y0,by omega,g,y2,by rw[←decide_eq_decide];exact y3,e⟩)
 ·refine Ret_some ⟨fun hh=>(by cases hh),?_⟩
  rintro ⟨j,a,b,c⟩
  exact absurd c (i4 j a (by omega))
end X
end Go.Vm
namespace Go.Vm
namespace X
open W Go.Proofs.St
def rkF (p:List Int) (x:Int):Int:=(p.idxOf x:Nat)
theorem rkF_at {p:List Int} (h:p.Nodup) {i:Nat} (hi:i<p.length):rkF p (p.getD i 0)=i:=by
 rw[List.getD,List.getElem?_eq_getElem hi,Option.getD_some,rkF,h.idxOf_getElem i hi]
theorem at_rkF {p:List Int} {x:Int} (h:x∈p):(rkF p x).toNat<p.length∧p.getD (rkF p x).toNat 0=x∧0≤rkF p x:=by
 have h1:=List.idxOf_lt_length_of_mem h
 unfold rkF
 refine⟨by omega,?_,by omega⟩
 rw[Int.toNat_natCast,List.getD,List.getElem?_eq_getElem h1,Option.getD_some,List.getElem_idxOf h1]
theorem rkF_pw {p:List Int} (h:p.Nodup):p.Pairwise fun a b=>rkF p a<rkF p b:=by
 rw[List.pairwise_iff_getElem]
 intro i j hi hj hij
 simp only[rkF,h.idxOf_getElem]
 omega
theorem Rk.rk {p r:List Int} (h:Rk p r) (hn:p.Nodup) {x:Int} (hx:x∈p):r.getD x.toNat 0=rkF p x:=by
 obtain⟨h1,h2,h3⟩:=at_rkF hx
 have:=h _ h1
 rw[h2] at this
 rw[this];omega
theorem rkF_inj {p:List Int} {x y:Int} (hx:x∈p) (hy:y∈p) (h:rkF p x=rkF p y):x=y:=by
 rw[←(at_rkF hx).2.1,h,(at_rkF hy).2.1]
theorem Bet_congr {f g:Int→Int} {n:Nat} (hfg:∀x:Int,0≤x→x<n→f x=g x) {i x:Int} (h0:0≤i) (h1:i+1<n) (hx:0≤x) (hx':x<n):Bet f i x↔Bet g i x:=by
 unfold Bet
 rw[hfg i h0 (by omega),hfg (i+1) (by omega) h1,hfg x hx hx']
theorem CrossC_congr {E:List Int} {n:Nat} {f g:Int→Int} (hfg:∀x:Int,0≤x→x<n→f x=g x):CrossC E n f→CrossC E n g:=by
 rintro ⟨i,h0,h1,⟨j,a1,a2,a3,a4,a5⟩ | ⟨j,a1,a2,a3,a4,a5,a6⟩⟩
 ·exact⟨i,h0,h1,.inl ⟨j,a1,a2,a3,a4,(Bet_congr hfg h0 h1 a1 a2).1 a5⟩⟩
 ·exact⟨i,h0,h1,.inr ⟨j,a1,a2,a3,a4,a5,fun h=>a6 (by rw[Bet_congr hfg h0 h1 a1 (by omega),Bet_congr hfg h0 h1 (by omega) (by omega)];exact h)⟩⟩
theorem Ord.memI {n:Nat} {p:List Int} (h:Ord n p) {x:Int} (h0:0≤x) (h1:x<n):x∈p:=h.mem_iff.2 (mem_idL.2 ⟨h0,h1⟩)
theorem Rk.eqF {p r:List Int} {n:Nat} (h:Rk p r) (hp:Ord n p):∀x:Int,0≤x→x<n→r.getD x.toNat 0=rkF p x:=fun x h0 h1=>h.rk hp.nodup (hp.memI h0 h1)
def KindBad (K:List Int) (p:List Int):Prop:=∃i:Int,0≤i∧i<K.length∧K.getD i.toNat 0≠3∧K.getD i.toNat 0≠kindF (rkF p) i
open Classical in
noncomputable def chkV (s:List Int×List Int) (p:List Int):Int:=if CrossC (endsL s.1) s.1.length (rkF p) then 12 else if KindBad s.2 p then 13 else 0
theorem crosses_ord {s:List Int×List Int} (h:Valid s) {p r:List Int} (hp:Ord s.1.length p) (hr:r.length=32) (hk:Rk p r):Ret (piles_folded_crosses fuel ((s,endsL s.1),r)) fun b=>(b=true↔CrossC (endsL s.1) s.1.length (rkF p)):=by
 refine(crosses_ok h hr).mono fun b hb=>hb.trans ⟨CrossC_congr (hk.eqF hp),CrossC_congr fun x h0 h1=>(hk.eqF hp x h0 h1).symm⟩
theorem kindF_congr {f g:Int→Int} {i:Int} (h1:f (i+i%2)=g (i+i%2)) (h2:f (i+1-i%2)=g (i+1-i%2)):kindF f i=kindF g i:=by
 unfold kindF
 rw[h1,h2]
theorem kind_ord {s:List Int×List Int} (h:Valid s) {p r:List Int} (hp:Ord s.1.length p) (hk:Rk p r) {i:Int} (h0:0≤i) (h1:i<s.2.length):piles_kind fuel (r,i)=some (kindF (rkF p) i):=by
 have:=h.1
 have:=h.2.1
 rw[kind_ok h0 (by omega)]
 rw[kindF_congr (f:=fun x=>r.getD x.toNat 0) (g:=rkF p) (hk.eqF hp _ (by omega) (by omega)) (hk.eqF hp _ (by omega) (by omega))]
theorem Check_ok {s:List Int×List Int} (h:Valid s) {p:List Int} (hp:Ord s.1.length p):piles_Check fuel (s,p)=some (chkV s p):=by
 classical
 apply Ret.eq
 have hn:=h.1
 have hk2:=h.2.1
 have hl:=hp.len
 unfold piles_Check
 rw[show((s.1,s.2),p)=(s,p) from rfl,listed_ord h hp,Option.bind_some]
 refine Ret_dec (fun g=>absurd rfl g) fun _=>?_
 refine Ret_bind (ranks_ok (p:=p) hp.in hp.nodup hn (by omega)) fun r ⟨hr,hr2⟩=>?_
 refine Ret_bind (crosses_ord h hp hr2 hr) fun b hb=>?_
 unfold chkV
 cases b with
 | true=>exact Ret_some (by rw[if_pos (hb.1 rfl)])
 | false=>
   rw[if_neg (fun h=>by cases hb.2 h)]
   refine Ret_loop (Inv:=fun i:Int=>0≤i∧i≤s.2.length∧∀j:Int,0≤j→j<i→¬(s.2.getD j.toNat 0≠3∧s.2.getD j.toNat 0≠kindF (rkF p) j)) (m:=fun i=>((s.2.length:Int)-i).toNat) ?_ _ _ ⟨by simp,by simp,fun j a b=>by omega⟩ (by simp only[fuel];omega)
   rintro i rec ⟨i1,i2,i3⟩ ih
   simp only
   refine Ret_dec (fun hlt=>?_) fun hge=>?_
   ·have nxt:¬(s.2.getD i.toNat 0≠3∧s.2.getD i.toNat 0≠kindF (rkF p) i)→Ret (chk (i64b (i+1)) (rec (i+1))) fun x=>x=if KindBad s.2 p then 13 else 0:=fun hc=>by
     refine Ret_chk (i64b_t (by omega) (by omega)) (ih _ ⟨by omega,by omega,fun j a b=>?_⟩ (by omega))
     by_cases e:j=i
     ·subst e;exact hc
     ·exact i3 j a (by omega)
    refine Ret_chk (inb_t (by omega) (by omega)) (Ret_dec (fun g=>?_) fun g=>nxt fun hh=>g hh.1)
    rw[kind_ord h hp hr i1 hlt,Option.bind_some]
    exact Ret_dec (fun g2=>Ret_some (by rw[if_pos ⟨i,i1,hlt,g,g2⟩])) fun g2=>nxt fun hh=>g2 hh.2
   ·exact Ret_some (by rw[if_neg];rintro ⟨j,a,b,c⟩;exact i3 j a (by omega) c)
theorem stk_ok {s:List Int×List Int} (h:Valid s) {p:List Int} (hp:Ord s.1.length p) {t u:Int} {β:Type} {K:Bool→Option β}:
  ((law17_over fuel (s,(p,u))).bind fun r4=>(law17_side fuel (s,(r4,t))).bind fun r5=>(law17_fits fuel r5).bind K)=K (fitsG [] (stk (endsL s.1) p s.1.length t u)):=by
 have hl:=hp.len
 have hn:=h.1
 have ho:(overL (endsL s.1) p u).length≤p.length:=List.length_filter_le _ _
 rw[over_ok h hp.in (by omega),Option.bind_some,side_ok h (fun x hx=>hp.in x (mem_overL.1 hx).1) (by omega),Option.bind_some,fits_ok (by rw[List.length_map];omega),Option.bind_some]
 rfl
theorem check17_ok {s:List Int×List Int} (h:Valid s) {p:List Int} (hp:Ord s.1.length p):law17_check fuel (s,p)=some (chkV s p):=by
 classical
 apply Ret.eq
 have hn:=h.1
 have hk2:=h.2.1
 have hl:=hp.len
 have hel:=endsL_len s.1
 unfold law17_check
 rw[show(s.1,s.2)=s from rfl,law17_ends_ok h,Option.bind_some]
 refine Ret_loop (Inv:=fun x:Int×(Int×Int)=>0≤x.2.2∧x.2.2≤(endsL s.1).length∧ -2048≤x.1∧x.2.1≤2048∧∀k:Nat,(k:Int)<x.2.2→x.1≤(endsL s.1).getD k 0∧(endsL s.1).getD k 0≤x.2.1) (m:=fun x=>(((endsL s.1).length:Int)-x.2.2).toNat) ?_ _ _ ⟨by simp,by simp,by simp,by simp,fun k hk=>by simp at hk;omega⟩ (by simp only[fuel];omega)
 rintro ⟨low,high,i⟩ rec ⟨i1,i2,i3,i4,i5⟩ ih
 simp only at i1 i2 i3 i4 i5 ⊢
 refine Ret_dec (fun hlt=>?_) fun hge=>?_
 ·have hb:=E_bd h (i:=i.toNat) (by omega)
  refine Ret_chk (inb_t (by omega) (by omega)) (Ret_chk (inb_t (by omega) (by omega)) (Ret_chk (i64b_t (by omega) (by omega)) (ih _ ⟨by simp only;omega,by simp only;omega,by simp only;omega,by simp only;omega,fun k hk=>?_⟩ (by simp only;omega))))
  simp only at hk ⊢
  by_cases e:(k:Int)=i
  ·rw[show i.toNat=k by omega];omega
  ·have:=i5 k (by omega);omega
 have hpw:=rkF_pw hp.nodup
 refine Ret_loop (Inv:=fun t:Int=>low≤t∧t≤3000∧∀v:Int,low≤v→v<t→¬BadW (stk (endsL s.1) p s.1.length v (v-1))∧¬BadW (stk (endsL s.1) p s.1.length v v)) (m:=fun t=>(3001-t).toNat) ?_ _ _ ⟨Int.le_refl _,?_,fun v a b=>by omega⟩ (by simp only[fuel];omega)
 ·rintro t rec ⟨t1,t2,t3⟩ ih
  refine Ret_dec (fun hlt=>?_) fun hge2=>?_
  ·refine Ret_chk (i64b_t (by omega) (by omega)) ?_
   rw[show((s.1,s.2),p,t-1)=(s,p,t-1) from rfl]
   try simp only[show ∀a,((s.1,s.2),a)=(s,a) from fun _=>rfl]
   rw[stk_ok h hp]
   have f1:=fits_iff h hp (t:=t) (u:=t-1) (.inl rfl)
   have f2:=fits_iff h hp (t:=t) (u:=t) (.inr rfl)
   cases e1:fitsG [] (stk (endsL s.1) p s.1.length t (t-1)) with
   | false=>
     refine Ret_some ?_
     have hb:BadW (stk (endsL s.1) p s.1.length t (t-1)):=Classical.not_not.1 fun hb=>by
      have:=f1.2 hb;rw[e1] at this;cases this
     unfold chkV
     rw[if_pos (cross_of_bad h hp (.inl rfl) hpw hb)]
   | true=>
     simp only[Bool.not_true,cond_false]
     rw[stk_ok h hp]
     cases e2:fitsG [] (stk (endsL s.1) p s.1.length t t) with
     | false=>
       refine Ret_some ?_
       have hb:BadW (stk (endsL s.1) p s.1.length t t):=Classical.not_not.1 fun hb=>by
        have:=f2.2 hb;rw[e2] at this;cases this
       unfold chkV
       rw[if_pos (cross_of_bad h hp (.inr rfl) hpw hb)]
     | true=>
       refine Ret_chk (i64b_t (by omega) (by omega)) (ih _ ⟨by omega,by omega,fun v a b=>?_⟩ (by omega))
       by_cases e:v=t
       ·subst e;exact⟨f1.1 e1,f2.1 e2⟩
       ·exact t3 v a (by omega)
  ·have hnc:¬CrossC (endsL s.1) s.1.length (rkF p):=fun hc=>by
    obtain⟨i',a,u,hu,hb⟩:=bad_of_cross h hp hpw hc
    have b:=i5 (i'+1) (by omega)
    have c:=t3 ((endsL s.1).getD (i'+1) 0) b.1 (by omega)
    rcases hu with rfl | rfl
    ·exact c.1 hb
    ·exact c.2 hb
   unfold chkV
   rw[if_neg hnc]
   refine Ret_chk (by simp;omega) ?_
   refine Ret_loop (Inv:=fun x:Int×(List Int×Option Nat)=>0≤x.1∧x.1≤p.length∧x.2.1.length=p.length∧∀k:Nat,k<x.1.toNat→x.2.1.getD (p.getD k 0).toNat 0=k) (m:=fun x=>((p.length:Int)-x.1).toNat) ?_ _ _ ⟨by simp,by simp,by simp,by simp⟩ (by simp only[fuel];omega)
   rintro ⟨i,r,cp⟩ rec ⟨k1,k2,k3,k4⟩ ih2
   simp only at k1 k2 k3 k4 ⊢
   refine Ret_dec (fun hlt3=>?_) fun hge3=>?_
   ·have hx:=hp.in _ (getD_mem (L:=p) (i:=i.toNat) (by omega))
    have:=set_rk hp.nodup hp.in (r:=r) (by omega) (by omega) k4
    rw[show((i.toNat:Nat):Int)=i by omega,show i.toNat+1=(i+1).toNat by omega] at this
    exact Ret_chk (inb_t (by omega) (by omega)) (Ret_chk (inb_t (by omega) (by omega)) (Ret_chk (i64b_t (by omega) (by omega)) (ih2 _ ⟨by simp only;omega,by simp only;omega,by simp only[List.length_set];exact k3,this⟩ (by simp only;omega))))
   have hr:Rk p r:=fun k hk=>k4 k (by omega)
   have hrx:=hr.eqF hp
   refine Ret_loop (Inv:=fun i:Int=>0≤i∧i≤s.2.length∧∀j:Int,0≤j→j<i→¬(s.2.getD j.toNat 0≠3∧s.2.getD j.toNat 0≠kindF (rkF p) j)) (m:=fun i=>((s.2.length:Int)-i).toNat) ?_ _ _ ⟨by simp,by simp,fun j a b=>by omega⟩ (by simp only[fuel];omega)
   rintro i rec ⟨m1,m2,m3⟩ ih3
   try simp only
   refine Ret_dec (fun hlt4=>?_) fun hge4=>?_
   ·have nxt:¬(s.2.getD i.toNat 0≠3∧s.2.getD i.toNat 0≠kindF (rkF p) i)→Ret (chk (i64b (i+1)) (rec (i+1))) fun x=>x=if KindBad s.2 p then 13 else 0:=fun hc=>by
     refine Ret_chk (i64b_t (by omega) (by omega)) (ih3 _ ⟨by omega,by omega,fun j a b=>?_⟩ (by omega))
     by_cases e:j=i
     ·subst e;exact hc
     ·exact m3 j a (by omega)
    have found:(s.2.getD i.toNat 0≠3∧s.2.getD i.toNat 0≠kindF (rkF p) i)→Ret (some (13:Int)) fun x=>x=if KindBad s.2 p then 13 else 0:=fun hc=>Ret_some (by rw[if_pos ⟨i,m1,hlt4,hc⟩])
    have hki:=h.2.2.2 _ (getD_mem (L:=s.2) (i:=i.toNat) (by omega))
    have a1:=hrx (i+i%2) (by omega) (by omega)
    have a2:=hrx (i+1-i%2) (by omega) (by omega)
    have hne:rkF p (i+i%2)≠rkF p (i+1-i%2):=fun e=>by
     have:=rkF_inj (hp.memI (by omega) (by omega)) (hp.memI (by omega) (by omega)) e
     omega
    generalize hkk:s.2.getD i.toNat 0=k at hki nxt found ⊢
    unfold kindF at nxt found
    refine Ret_chk (i64b_t (by omega) (by omega)) (Ret_chk (by rw[Bool.and_eq_true];exact⟨decide_eq_true (by omega),rfl⟩) ?_)
    refine Ret_jn (fun x=>x=(i+1-i%2,i+i%2)) (fun x hx=>?_) fun j hj=>Ret_dec (fun g=>hj _ (by rw[show i+1-i%2=i+1 by omega,show i+i%2=i by omega])) fun g=>hj _ (by rw[show i+1-i%2=i by omega,show i+i%2=i+1 by omega])
    subst hx
    try simp only
    rw[a1,a2]
    generalize rkF p (i+i%2)=X at *
    generalize rkF p (i+1-i%2)=Y at *
    have hin:=inb_t (i:=i) (n:=s.2.length) (by omega) (by omega)
    have in1:=inb_t (i:=i+1-i%2) (n:=r.length) (by omega) (by omega)
    have in2:=inb_t (i:=i+i%2) (n:=r.length) (by omega) (by omega)
    refine Ret_chk hin (Ret_dec (fun g=>?_) fun g=>?_)
    ·refine Ret_chk in1 (Ret_chk in2 (Ret_dec (fun g2=>found (by rw[if_neg (by omega)];omega)) fun g2=>?_))
     refine Ret_chk hin (Ret_dec (fun g3=>by omega) fun g3=>nxt (by rw[if_pos (by omega)];omega))
    ·refine Ret_chk hin (Ret_dec (fun g3=>?_) fun g3=>nxt (by omega))
     refine Ret_chk in1 (Ret_chk in2 (Ret_dec (fun g2=>found (by rw[if_pos (by omega)];omega)) fun g2=>nxt (by rw[if_neg (by omega)];omega)))
   ·exact Ret_some (by rw[if_neg];rintro ⟨j,a,b,c⟩;exact m3 j a (by omega) c)
 ·have:=i5 0 (by omega)
  have:=E_bd h (i:=0) (by omega)
  omega
end X
end Go.Vm
namespace Go.Vm
namespace X
open W Go.Proofs.St
theorem Layers_ok {s:List Int×List Int} (h:Valid s) {p:List Int} (hp:Ord s.1.length p) (at_:Int):piles_Layers fuel (s,(p,at_))=some (overL (endsL s.1) p at_,0):=by
 apply Ret.eq
 have hel:=endsL_len s.1
 have hn:=h.1
 have hl:=hp.len
 unfold piles_Layers
 rw[show((s.1,s.2),(p,at_).1)=(s,p) from rfl,listed_ord h hp,Option.bind_some]
 refine Ret_dec (fun g=>absurd rfl g) fun _=>?_
 refine Ret_loop (Inv:=fun x:List Int×Int=>0≤x.2∧x.2≤p.length∧x.1=(p.take x.2.toNat).filter (isOver (endsL s.1) at_)) (m:=fun x=>((p.length:Int)-x.2).toNat) ?_ _ _ ⟨by simp,by simp,by simp⟩ (by simp only[fuel];omega)
 rintro ⟨out,i⟩ rec ⟨i1,i2,i3⟩ ih
 simp only at i1 i2 i3 ⊢
 have hfil:out.length≤i.toNat:=by rw[i3];exact Nat.le_trans (List.length_filter_le ..) (by simp;omega)
 refine Ret_dec (fun hlt=>?_) fun hge=>?_
 ·have hx:=hp.in _ (getD_mem (L:=p) (i:=i.toNat) (by omega))
  have es:=filter_snoc (f:=isOver (endsL s.1) at_) (p:=p) (i:=i.toNat) (by omega)
  refine Ret_chk (inb_t (by omega) (by omega)) ?_
  generalize p.getD i.toNat 0=q at hx es ⊢
  have nxt:∀o:List Int,o=(p.take (i.toNat+1)).filter (isOver (endsL s.1) at_)→Ret (chk (i64b (i+1)) (rec (o,i+1))) fun x=>x=(overL (endsL s.1) p at_,0):=fun o ho=>
   Ret_chk (i64b_t (by omega) (by omega)) (ih _ ⟨by simp only;omega,by simp only;omega,by simp only;rw[ho,show(i+1).toNat=i.toNat+1 by omega]⟩ (by simp only;omega))
  rw[from_ok hx.1 (by omega) (by omega),Option.bind_some]
  have ef:isOver (endsL s.1) at_ q=(decide (frm (endsL s.1) q.toNat≤at_)&&decide (at_<too (endsL s.1) q.toNat)):=rfl
  refine Ret_dec (fun h1=>?_) fun h1=>?_
  ·rw[to_ok hx.1 (by omega) (by omega),Option.bind_some]
   refine Ret_dec (fun h2=>?_) fun h2=>?_
   ·refine Ret_chk (lenOk_t (by omega)) (nxt _ ?_)
    rw[es,ef,decide_eq_true h1,decide_eq_true h2,i3];rfl
   ·refine nxt _ ?_
    rw[es,ef,decide_eq_false h2,i3,Bool.and_false,cond_false,List.append_nil]
  ·refine nxt _ ?_
   rw[es,ef,decide_eq_false h1,i3,Bool.false_and,cond_false,List.append_nil]
 ·have e:out=overL (endsL s.1) p at_:=by rw[i3,List.take_of_length_le (by omega)];rfl
  refine Ret_chk (by simp[bnb]) (Ret_chk (by rw[List.take_length];simp[capIs]) (Ret_some ?_))
  rw[List.take_length,e]
theorem law17_PilesCheck_true {a0 a1 y:List Int} (h0:bytes a0) (h1:bytes a1) (hy:bytes y):law17_PilesCheck fuel ((a0,a1),y)=some true:=by
 apply Ret.eq
 unfold law17_PilesCheck
 refine Ret_bind (law16_T_Of_ok (a:=(a0,a1)) h0 h1) fun s hs=>?_
 have h:=hs.valid
 have hn:=h.1
 refine Ret_bind (O_Of_ok hy (n:=s.1.length) (by omega)) fun p hp=>?_
 have hl:=hp.len
 rw[show((s.1,s.2),p)=(s,p) from rfl,Check_ok h hp,Option.bind_some,check17_ok h hp,Option.bind_some]
 refine Ret_dec (fun g=>absurd rfl g) fun _=>?_
 rw[show(s.1,s.2)=s from rfl,strips_Span_valid h,Option.bind_some]
 refine Ret_dec (fun g=>absurd rfl g) fun _=>?_
 obtain⟨il,l1,l2⟩:=lo_at (E:=endsL s.1) (k:=s.1.length)
 obtain⟨ih_,u1,u2⟩:=hi_at (E:=endsL s.1) (k:=s.1.length)
 have bl:=E_bd h l1
 have bu:=E_bd h u1
 rw[←l2] at bl
 rw[←u2] at bu
 simp only
 generalize lo (endsL s.1) s.1.length=l at *
 generalize hi (endsL s.1) s.1.length=u at *
 refine Ret_chk (i64b_t (by omega) (by omega)) ?_
 refine Ret_loop (Inv:=fun t:Int=>l-2≤t) (m:=fun t=>(3001-t).toNat) ?_ _ _ (Int.le_refl _) (by simp only[fuel];omega)
 intro t rec ht ih
 refine Ret_chk (i64b_t (by omega) (by omega)) (Ret_dec (fun hlt=>?_) fun hge=>?_)
 ·rw[show((s.1,s.2),p,t)=(s,(p,t)) from rfl,Layers_ok h hp,Option.bind_some]
  refine Ret_dec (fun g=>absurd rfl g) fun _=>?_
  rw[over_ok h hp.in (by omega),Option.bind_some]
  have ho:(overL (endsL s.1) p t).length≤p.length:=List.length_filter_le _ _
  generalize overL (endsL s.1) p t=O at ho ⊢
  refine Ret_dec (fun g=>absurd rfl g) fun _=>Ret_dec (fun g=>absurd rfl g) fun _=>?_
  refine Ret_loop (Inv:=fun i:Int=>0≤i∧i≤O.length) (m:=fun i=>((O.length:Int)-i).toNat) ?_ _ _ ⟨by simp,by simp⟩ (by simp only[fuel];omega)
  rintro i rec2 ⟨i1,i2⟩ ih2
  refine Ret_dec (fun hlt2=>?_) fun hge2=>?_
  ·exact Ret_chk (inb_t (by omega) (by omega)) (Ret_chk (inb_t (by omega) (by omega)) (Ret_dec (fun g=>absurd rfl g) fun _=>Ret_chk (i64b_t (by omega) (by omega)) (ih2 _ ⟨by omega,by omega⟩ (by omega))))
  ·exact Ret_chk (i64b_t (by omega) (by omega)) (ih _ (by omega) (by omega))
 ·rw[lives17]
  exact Ret_some rfl
end X
end Go.Vm
namespace Go.Vm
namespace X
open W Go.Proofs.St
theorem Bet_neg {f f':Int→Int} {c:Int} {n:Nat} (hf:∀x:Int,0≤x→x<n→f' x=c-f x) {i x:Int} (h0:0≤i) (h1:i+1<n) (hx:0≤x) (hx':x<n):Bet f' i x↔Bet f i x:=by
 unfold Bet
 rw[hf i h0 (by omega),hf (i+1) (by omega) h1,hf x hx hx']
 omega
theorem CrossC_neg {E:List Int} {n:Nat} {f f':Int→Int} {c:Int} (hf:∀x:Int,0≤x→x<n→f' x=c-f x):CrossC E n f'→CrossC E n f:=by
 rintro ⟨i,h0,h1,⟨j,a1,a2,a3,a4,a5⟩ | ⟨j,a1,a2,a3,a4,a5,a6⟩⟩
 ·exact⟨i,h0,h1,.inl ⟨j,a1,a2,a3,a4,(Bet_neg hf h0 h1 a1 a2).1 a5⟩⟩
 ·exact⟨i,h0,h1,.inr ⟨j,a1,a2,a3,a4,a5,fun h=>a6 (by rw[Bet_neg hf h0 h1 a1 (by omega),Bet_neg hf h0 h1 (by omega) (by omega)];exact h)⟩⟩
theorem Ord.rev {n:Nat} {p:List Int} (h:Ord n p):Ord n p.reverse:=(List.reverse_perm p).trans h
theorem rk_of_at {p:List Int} (hn:p.Nodup) {x:Int} {i:Nat} (hi:i<p.length) (h:p.getD i 0=x):rkF p x=i:=by rw[←h,rkF_at hn hi]
theorem rk_rev {n:Nat} {p:List Int} (h:Ord n p) {x:Int} (h0:0≤x) (h1:x<n):rkF p.reverse x=(n:Int)-1-rkF p x:=by
 obtain⟨a,b,c⟩:=at_rkF (h.memI h0 h1)
 have hl:=h.len
 have:=rk_of_at (p:=p.reverse) h.rev.nodup (x:=x) (i:=p.length-1-(rkF p x).toNat) (by rw[List.length_reverse];omega) (by
  rw[getD_reverse (by omega),show p.length-1-(p.length-1-(rkF p x).toNat)=(rkF p x).toNat by omega,b])
 rw[this];omega
theorem kindF_val {f:Int→Int} {i:Int}:kindF f i=1∨kindF f i=2:=by
 unfold kindF
 split<;>omega
theorem kindF_rev {n:Nat} {p:List Int} (h:Ord n p) {i:Int} (h0:0≤i) (h1:i+1<n):kindF (rkF p.reverse) i=3-kindF (rkF p) i:=by
 have hne:rkF p (i+i%2)≠rkF p (i+1-i%2):=fun e=>by
  have:=rkF_inj (h.memI (by omega) (by omega)) (h.memI (by omega) (by omega)) e
  omega
 unfold kindF
 rw[rk_rev h (by omega) (by omega),rk_rev h (by omega) (by omega)]
 split<;>split<;>omega
def turnL (p:List Int):List Int:=if p.length%2=0 then(p.map fun x=>(p.length:Int)-1-x).reverse else p.map fun x=>(p.length:Int)-1-x
theorem turnL_len (p:List Int):(turnL p).length=p.length:=by unfold turnL;split<;>simp
theorem getD_map {p:List Int} {f:Int→Int} {i:Nat} (h:i<p.length):(p.map f).getD i 0=f (p.getD i 0):=by
 rw[List.getD,List.getD,List.getElem?_map,List.getElem?_eq_getElem h];rfl
theorem turnL_at {p:List Int} {i:Nat} (h:i<p.length):(turnL p).getD i 0=(p.length:Int)-1-p.getD (if p.length%2=0 then p.length-1-i else i) 0:=by
 unfold turnL
 split
 ·rw[getD_reverse (by simp;omega),List.length_map,getD_map (by omega)]
 ·rw[getD_map h]
theorem turnL_turnL {p:List Int}:turnL (turnL p)=p:=by
 refine ext_getD (by rw[turnL_len,turnL_len]) fun i hi=>?_
 rw[turnL_len,turnL_len] at hi
 rw[turnL_at (by rw[turnL_len];exact hi),turnL_len,turnL_at (by split<;>omega)]
 split
 ·rw[show p.length-1-(p.length-1-i)=i by omega];omega
 ·omega
theorem Ord.turn {n:Nat} {p:List Int} (h:Ord n p):Ord n (turnL p):=by
 have hl:=h.len
 refine ord_of (by rw[turnL_len,hl]) fun i hi=>?_
 obtain⟨a,b,c⟩:=at_rkF (h.memI (x:=(n:Int)-1-i) (by omega) (by omega))
 generalize (rkF p ((n:Int)-1-i)).toNat=k at a b
 have:=turnL_at (p:=p) (i:=if p.length%2=0 then p.length-1-k else k) (by split<;>omega)
 rw[show(if p.length%2=0 then p.length-1-(if p.length%2=0 then p.length-1-k else k) else(if p.length%2=0 then p.length-1-k else k))=k by split<;>omega,b] at this
 rw[show(i:Int)=(p.length:Int)-1-((n:Int)-1-i) by omega,←this]
 exact getD_mem (by rw[turnL_len];split<;>omega)
theorem rk_turn {n:Nat} {p:List Int} (h:Ord n p) {x:Int} (h0:0≤x) (h1:x<n):rkF (turnL p) ((n:Int)-1-x)=if n%2=0 then(n:Int)-1-rkF p x else rkF p x:=by
 obtain⟨a,b,c⟩:=at_rkF (h.memI h0 h1)
 have hl:=h.len
 have:=rk_of_at (p:=turnL p) h.turn.nodup (x:=(n:Int)-1-x) (i:=if p.length%2=0 then p.length-1-(rkF p x).toNat else(rkF p x).toNat) (by rw[turnL_len];split<;>omega) (by
  rw[turnL_at (by split<;>omega)]
  rw[show(if p.length%2=0 then p.length-1-(if p.length%2=0 then p.length-1-(rkF p x).toNat else(rkF p x).toNat) else(if p.length%2=0 then p.length-1-(rkF p x).toNat else(rkF p x).toNat))=(rkF p x).toNat by split<;>omega,b]
  omega)
 rw[this,hl]
 split<;>omega
theorem Valid.turn {s:List Int×List Int} (h:Valid s):Valid (s.1.reverse,s.2.reverse):=
 ⟨by simp only[List.length_reverse];exact h.1,by simp only[List.length_reverse];exact h.2.1,fun x hx=>h.2.2.1 x (List.mem_reverse.1 hx),fun x hx=>h.2.2.2 x (List.mem_reverse.1 hx)⟩
theorem E_zero (L:List Int):(endsL L).getD 0 0=0:=by
 rw[endsL_getD (by omega)];rfl
theorem E_turn {s:List Int×List Int} (h:Valid s):∀i:Nat,i≤s.1.length→(endsL s.1.reverse).getD i 0=if s.1.length%2=0 then(endsL s.1).getD (s.1.length-i) 0-(endsL s.1).getD s.1.length 0 else(endsL s.1).getD s.1.length 0-(endsL s.1).getD (s.1.length-i) 0
 | 0,_=>by
   rw[E_zero,Nat.sub_zero]
   split<;>omega
 | i+1,hi=>by
   have ih:=E_turn h i (by omega)
   have a:=E_step h.turn (i:=i) (by simp only[List.length_reverse];omega)
   have b:=E_step h (i:=s.1.length-(i+1)) (by omega)
   simp only at a
   rw[getD_reverse (by omega),ih] at a
   rw[show s.1.length-(i+1)+1=s.1.length-i by omega] at b
   rw[show s.1.length-1-i=s.1.length-(i+1) by omega] at a
   split<;>split at a<;>omega
theorem CrossC_turn {s:List Int×List Int} (h:Valid s) {f f':Int→Int} (hf:∀x:Int,0≤x→x<s.1.length→f' ((s.1.length:Int)-1-x)=if s.1.length%2=0 then(s.1.length:Int)-1-f x else f x):
  CrossC (endsL s.1) s.1.length f→CrossC (endsL s.1.reverse) s.1.length f':=by
 have hE:=E_turn h
 have bet:∀i x:Int,0≤i→i+1<s.1.length→0≤x→x<s.1.length→(Bet f' ((s.1.length:Int)-1-1-i) ((s.1.length:Int)-1-x)↔Bet f i x):=fun i x a b c d=>by
  unfold Bet
  rw[hf x c d,show(s.1.length:Int)-1-1-i+1=(s.1.length:Int)-1-i by omega,show(s.1.length:Int)-1-1-i=(s.1.length:Int)-1-(i+1) by omega,hf i a (by omega),hf (i+1) (by omega) b]
  split<;>omega
 rintro ⟨i,h0,h1,hh⟩
 have ti:=hE (s.1.length-(i.toNat+1)) (by omega)
 rw[show s.1.length-(s.1.length-(i.toNat+1))=i.toNat+1 by omega] at ti
 have ei:((s.1.length:Int)-1-1-i).toNat+1=s.1.length-(i.toNat+1):=by omega
 refine⟨(s.1.length:Int)-1-1-i,by omega,by omega,?_⟩
 rw[ei]
 have ti0:=hE ((s.1.length:Int)-1-1-i).toNat (by omega)
 rw[show s.1.length-((s.1.length:Int)-1-1-i).toNat=i.toNat+1+1 by omega] at ti0
 have si:=E_step h (i:=i.toNat) (by omega)
 have si1:=E_step h (i:=i.toNat+1) (by omega)
 rcases hh with⟨j,a1,a2,a3,a4,a5⟩ | ⟨j,a1,a2,a3,a4,a5,a6⟩
 ·have tj:=hE ((s.1.length:Int)-1-j).toNat (by omega)
  have tj1:=hE (((s.1.length:Int)-1-j).toNat+1) (by omega)
  rw[show s.1.length-((s.1.length:Int)-1-j).toNat=j.toNat+1 by omega] at tj
  rw[show s.1.length-(((s.1.length:Int)-1-j).toNat+1)=j.toNat by omega] at tj1
  refine .inl ⟨(s.1.length:Int)-1-j,by omega,by omega,?_,?_,(bet i j h0 h1 a1 a2).2 a5⟩
  ·unfold frm too at *
   rw[ti,tj,tj1]
   split<;>omega
  ·unfold frm too at *
   rw[ti,tj,tj1]
   split<;>omega
 ·have tj:=hE (s.1.length-(j.toNat+1)) (by omega)
  rw[show s.1.length-(s.1.length-(j.toNat+1))=j.toNat+1 by omega] at tj
  have ej:((s.1.length:Int)-1-1-j).toNat+1=s.1.length-(j.toNat+1):=by omega
  have tj0:=hE ((s.1.length:Int)-1-1-j).toNat (by omega)
  rw[show s.1.length-((s.1.length:Int)-1-1-j).toNat=j.toNat+1+1 by omega] at tj0
  have sj:=E_step h (i:=j.toNat) (by omega)
  have sj1:=E_step h (i:=j.toNat+1) (by omega)
  refine .inr ⟨(s.1.length:Int)-1-1-j,by omega,by omega,by omega,?_,?_,?_⟩
  ·rw[ej,ti,tj,a4]
  ·rw[ti,tj0,ti0]
   have w1:((endsL s.1).getD (j.toNat+1) 0< (endsL s.1).getD (j.toNat+1+1) 0)↔(endsL s.1).getD (j.toNat+1) 0< (endsL s.1).getD j.toNat 0:=by omega
   have w2:((endsL s.1).getD (i.toNat+1) 0< (endsL s.1).getD (i.toNat+1+1) 0)↔(endsL s.1).getD (i.toNat+1) 0< (endsL s.1).getD i.toNat 0:=by omega
   have n1:(endsL s.1).getD (j.toNat+1) 0≠(endsL s.1).getD (j.toNat+1+1) 0:=by omega
   have n2:(endsL s.1).getD (i.toNat+1) 0≠(endsL s.1).getD (i.toNat+1+1) 0:=by omega
   rw[a4] at w1 n1
   clear sj sj1 si si1 tj tj0 ti ti0 hE
   split
   ·constructor<;>intro g<;>omega
   ·constructor<;>intro g<;>omega
  ·have e:(s.1.length:Int)-1-1-j+1=(s.1.length:Int)-1-j:=by omega
   have e2:(s.1.length:Int)-1-1-j=(s.1.length:Int)-1-(j+1):=by omega
   rw[e,e2,bet i j h0 h1 a1 (by omega),bet i (j+1) h0 h1 (by omega) (by omega)]
   exact fun h=>a6 ⟨h.2,h.1⟩
theorem kindF_turn {n:Nat} {f f':Int→Int} (hf:∀x:Int,0≤x→x<n→f' ((n:Int)-1-x)=if n%2=0 then(n:Int)-1-f x else f x) {i:Int} (h0:0≤i) (h1:i+1<n):kindF f' ((n:Int)-1-1-i)=kindF f i:=by
 unfold kindF
 have a:=hf (i+i%2) (by omega) (by omega)
 have b:=hf (i+1-i%2) (by omega) (by omega)
 by_cases e:n%2=0
 ·rw[if_pos e] at a b
  rw[show(n:Int)-1-1-i+ ((n:Int)-1-1-i)%2=(n:Int)-1-(i+1-i%2) by omega,show(n:Int)-1-1-i+1-((n:Int)-1-1-i)%2=(n:Int)-1-(i+i%2) by omega,a,b]
  split<;>split<;>omega
 ·rw[if_neg e] at a b
  rw[show(n:Int)-1-1-i+ ((n:Int)-1-1-i)%2=(n:Int)-1-(i+i%2) by omega,show(n:Int)-1-1-i+1-((n:Int)-1-1-i)%2=(n:Int)-1-(i+1-i%2) by omega,a,b]
end X
end Go.Vm
namespace Go.Vm
namespace X
open W Go.Proofs.St
set_option maxRecDepth 100000
def flipK (k:Int):Int:=if k=1 then 2 else if k=2 then 1 else k
theorem over_spec {a:List Int×List Int} (h1:a.1.length≤10000) (h2:a.2.length≤10000):strips_Over fuel a=some (a.1,a.2.map flipK):=by
 apply Ret.eq
 unfold strips_Over
 refine Ret_bind (Ret.of (clone_int h1)) fun r e=>?_
 subst e
 refine Ret_chk (by simp[bnb]) (Ret_bind (Ret.of (clone_kind h2)) fun r e=>?_)
 subst e
 refine Ret_chk (by simp[bnb]) ?_
 refine Ret_loop (Inv:=fun x:(Int×((List Int)×Option Nat))=>0≤x.1∧x.1≤a.2.length∧x.2.1.length=a.2.length∧∀j:Nat,j<a.2.length→x.2.1.getD j 0=if(j:Int)<x.1 then flipK (a.2.getD j 0) else a.2.getD j 0) (m:=fun x=>((a.2.length:Int)-x.1).toNat) ?_ _ _ ⟨by simp,by simp,rfl,fun j hj=>by rw[if_neg (by dsimp only;omega)]⟩ (by simp only[fuel];omega)
 rintro ⟨i,L,o⟩ rec ⟨i1,i2,i3,i4⟩ ih
 dsimp only at i1 i2 i3 i4 ⊢
 simp only[Nat.zero_add]
 have step:∀L':List Int,L'.length=a.2.length→(∀j:Nat,L'.getD j 0=if j=i.toNat then flipK (a.2.getD j 0) else L.getD j 0)→i<a.2.length→Ret (rec (i+1,(L',o))) fun x=>x=(a.1,a.2.map flipK):=fun L' hl hg hlt=>by
  refine ih _ ⟨by dsimp only;omega,by dsimp only;omega,hl,fun j hj=>?_⟩ (by dsimp only;omega)
  dsimp only
  rw[hg j]
  by_cases hji:j=i.toNat
  ·rw[if_pos hji,if_pos (by omega)]
  ·rw[if_neg hji,i4 j hj]
   by_cases h:(j:Int)<i
   ·rw[if_pos h,if_pos (by omega)]
   ·rw[if_neg h,if_neg (by omega)]
 refine Ret_dec (fun hlt=>?_) fun hge=>?_
 ·have hi:i.toNat<L.length:=by omega
  have hv:=i4 i.toNat (by omega)
  rw[if_neg (by omega)] at hv
  refine Ret_chk (inb_t i1 hlt) (Ret_dec (fun h=>?_) fun h=>Ret_dec (fun h'=>?_) fun h'=>?_)
  ·refine Ret_chk (inb_t i1 hlt) (Ret_chk (i64b_t (by omega) (by omega)) (step _ (by simp[i3]) (fun j=>?_) hlt))
   rw[getD_set hi]
   by_cases hj:j=i.toNat
   ·subst hj
    rw[if_pos rfl,if_pos rfl,←hv,h]
    rfl
   ·rw[if_neg hj,if_neg hj]
  ·refine Ret_chk (inb_t i1 hlt) (Ret_chk (i64b_t (by omega) (by omega)) (step _ (by simp[i3]) (fun j=>?_) hlt))
   rw[getD_set hi]
   by_cases hj:j=i.toNat
   ·subst hj
    rw[if_pos rfl,if_pos rfl,←hv,h']
    rfl
   ·rw[if_neg hj,if_neg hj]
  ·refine Ret_chk (i64b_t (by omega) (by omega)) (step _ i3 (fun j=>?_) hlt)
   by_cases hj:j=i.toNat
   ·subst hj
    rw[if_pos rfl,←hv]
    unfold flipK
    rw[if_neg h,if_neg h']
   ·rw[if_neg hj]
 ·have e:L=a.2.map flipK:=ext_getD (by simp[i3]) fun j hj=>by
   rw[i4 j (by omega),if_pos (by omega),getD_map (by omega)]
  subst e
  refine Ret_chk (by simp[capIs,ble_dec]) (Ret_some (by rw[List.take_of_length_le (Nat.le_refl _),List.take_of_length_le (by simp)]))
theorem pOver_ok {p:List Int} (h:p.length≤10000):piles_Over fuel p=some p.reverse:=turned_int h
theorem rev_loop2 {r:List Int} {cp:Option Nat} {Q:(List Int×Int)→Prop} (hr:r.length≤10000) (hc:capIs cp r.length=true) (hQ:Q (r.reverse,0)):
  Ret (loopF (fun rec3 (x3:(Int×(Int×((List Int)×Option Nat))))=>bif(decide (x3.1<x3.2.1)) then(chk (inb x3.2.1 x3.2.2.1.length) (chk (inb x3.1 x3.2.2.1.length) (chk (inb x3.1 x3.2.2.1.length) (chk (inb x3.2.1 (x3.2.2.1.set x3.1.toNat (x3.2.2.1.getD x3.2.1.toNat 0)).length) (chk (i64b (x3.1+1)) (chk (i64b (x3.2.1-1)) (rec3 ((x3.1+1),((x3.2.1-1),(((x3.2.2.1.set x3.1.toNat (x3.2.2.1.getD x3.2.1.toNat 0)).set x3.2.1.toNat (x3.2.2.1.getD x3.1.toNat 0)),x3.2.2.2)))))))))) else(chk (capIs x3.2.2.2 x3.2.2.1.length) (some (x3.2.2.1,(0:Int))))) fuel (0,((((r.length:Nat):Int)-1),(r,cp)))) Q:=by
 refine Ret_loop (Inv:=fun x:Int×(Int×((List Int)×Option Nat))=>0≤x.1∧x.2.1=(r.length:Int)-1-x.1∧2*x.1≤r.length+1∧x.2.2.2=cp∧x.2.2.1.length=r.length∧∀k:Nat,k<r.length→x.2.2.1.getD k 0=if(k:Int)<x.1∨x.2.1< (k:Int) then r.getD (r.length-1-k) 0 else r.getD k 0) (m:=fun x=>(x.2.1-x.1+1).toNat) ?_ _ _ ⟨by simp,by simp,by simp only;omega,rfl,rfl,fun k hk=>?_⟩ (by simp only[fuel];omega)
 ·rintro ⟨i,j,l,c⟩ rec ⟨i1,i2,i3,i6,i4,i5⟩ ih
  simp only at i1 i2 i3 i4 i5 i6 ⊢
  subst i6
  refine Ret_dec (fun hlt=>?_) fun hge=>?_
  ·refine Ret_chk (inb_t (by omega) (by omega)) (Ret_chk (inb_t (by omega) (by omega)) (Ret_chk (inb_t (by omega) (by omega)) (Ret_chk (inb_t (by omega) (by rw[List.length_set];omega)) (Ret_chk (i64b_t (by omega) (by omega)) (Ret_chk (i64b_t (by omega) (by omega)) (ih _ ⟨by simp only;omega,by simp only;omega,by simp only;omega,rfl,by simp only[List.length_set];exact i4,fun k hk=>?_⟩ (by simp only;omega)))))))
   simp only
   rw[getD_set (by rw[List.length_set];omega),getD_set (by omega)]
   have e1:=i5 i.toNat (by omega)
   have e2:=i5 j.toNat (by omega)
   rw[if_neg (by omega)] at e1 e2
   by_cases h1:k=j.toNat
   ·rw[if_pos h1,e1,if_pos (by omega)]
    congr 1;omega
   ·rw[if_neg h1]
    by_cases h2:k=i.toNat
    ·rw[if_pos h2,e2,if_pos (by omega)]
     congr 1;omega
    ·rw[if_neg h2,i5 k hk]
     by_cases h3:(k:Int)<i∨j< (k:Int)
     ·rw[if_pos h3,if_pos (by omega)]
     ·rw[if_neg h3,if_neg (by omega)]
  ·have hle:l=r.reverse:=by
    refine ext_getD (by simp[i4]) fun k hk=>?_
    rw[i5 k (by omega),getD_reverse (by omega)]
    by_cases h3:(k:Int)<i∨j< (k:Int)
    ·rw[if_pos h3]
    ·rw[if_neg h3]
     congr 1;omega
   subst hle
   exact Ret_chk (by rw[List.length_reverse];exact hc) (Ret_some hQ)
 ·simp only
  rw[if_neg (by omega)]
theorem Turn_ok {s:List Int×List Int} (h:Valid s) {p:List Int} (hp:Ord s.1.length p):piles_Turn fuel (s,p)=some (turnL p,0):=by
 apply Ret.eq
 have hn:=h.1
 have hl:=hp.len
 unfold piles_Turn
 rw[show((s.1,s.2),p)=(s,p) from rfl,listed_ord h hp,Option.bind_some]
 refine Ret_dec (fun g=>absurd rfl g) fun _=>Ret_chk (by simp;omega) ?_
 refine Ret_loop (Inv:=fun x:Int×(List Int×Option Nat)=>0≤x.1∧x.1≤p.length∧x.2.2=some p.length∧x.2.1.length=p.length∧∀k:Nat,(k:Int)<x.1→x.2.1.getD k 0=(p.length:Int)-1-p.getD k 0) (m:=fun x=>((p.length:Int)-x.1).toNat) ?_ _ _ ⟨by simp,by simp,rfl,by simp,fun k hk=>by simp at hk;omega⟩ (by simp only[fuel];omega)
 rintro ⟨i,L,cp⟩ rec ⟨i1,i2,i3,i4,i5⟩ ih
 simp only at i1 i2 i3 i4 i5 ⊢
 subst i3
 refine Ret_dec (fun hlt=>?_) fun hge=>?_
 ·have hx:=hp.in _ (getD_mem (L:=p) (i:=i.toNat) (by omega))
  refine Ret_chk (inb_t (by omega) (by omega)) (Ret_chk (i64b_t (by omega) (by omega)) (Ret_chk (i64b_t (by omega) (by omega)) (Ret_chk (inb_t (by omega) (by omega)) (Ret_chk (i64b_t (by omega) (by omega)) (ih _ ⟨by simp only;omega,by simp only;omega,rfl,by simp only[List.length_set];exact i4,fun k hk=>?_⟩ (by simp only;omega))))))
  simp only at hk ⊢
  rw[getD_set (by omega)]
  by_cases e:k=i.toNat
  ·rw[if_pos e,e]
  ·rw[if_neg e,i5 k (by omega)]
 ·have e:L=p.map fun x=>(p.length:Int)-1-x:=ext_getD (by rw[List.length_map,i4]) fun k hk=>by
   rw[i5 k (by omega),getD_map (f:=fun x=>(p.length:Int)-1-x) (by omega)]
  refine Ret_chk (by simp) (Ret_dec (fun g=>?_) fun g=>?_)
  ·refine Ret_chk (i64b_t (by omega) (by omega)) (rev_loop2 (by omega) (by rw[i4];simp[capIs]) ?_)
   unfold turnL
   rw[if_pos (by omega),e]
  ·refine Ret_chk (by rw[i4];simp[capIs]) (Ret_some ?_)
   unfold turnL
   rw[if_neg (by omega),e]
def kindsL (k:Nat) (p:List Int):List Int:=(List.range k).map fun(i:Nat)=>kindF (rkF p) i
theorem kindsL_len (k:Nat) (p:List Int):(kindsL k p).length=k:=by simp[kindsL]
theorem kindsL_at {k:Nat} {p:List Int} {i:Nat} (h:i<k):(kindsL k p).getD i 0=kindF (rkF p) i:=by
 unfold kindsL
 rw[List.getD,List.getElem?_map,List.getElem?_range h];rfl
theorem kindsL_mem {k:Nat} {p:List Int} {x:Int} (h:x∈kindsL k p):x=1∨x=2:=by
 obtain⟨i,_,rfl⟩:=List.mem_map.1 h
 exact kindF_val
theorem chkV_val (s:List Int×List Int) (p:List Int):chkV s p=0∨chkV s p=12∨chkV s p=13:=by
 unfold chkV
 split
 ·exact .inr (.inl rfl)
 ·split
  ·exact .inr (.inr rfl)
  ·exact .inl rfl
theorem chkV_12 {s:List Int×List Int} {p:List Int}:chkV s p=12↔CrossC (endsL s.1) s.1.length (rkF p):=by
 unfold chkV
 split
 ·simp[*]
 ·split<;>simp[*]
theorem Kinds_ok {s:List Int×List Int} (h:Valid s) {p:List Int} (hp:Ord s.1.length p):piles_Kinds fuel (s,p)=some (if chkV s p=12 then(([],[]),12) else((s.1,kindsL s.2.length p),0)):=by
 apply Ret.eq
 have hn:=h.1
 have hk2:=h.2.1
 have hl:=hp.len
 have walk:Ret ((strips_Turn fuel (s.1,s.2)).bind fun r7=>(strips_Turn fuel (r7.1,r7.2)).bind fun r8=>(piles_ranks fuel p).bind fun r9=>loopF (fun rec10 (x10:(Int×((List Int)×Option Nat)))=>bif(decide (x10.1< ((r8.2.length:Nat):Int))) then((piles_kind fuel (r9,x10.1)).bind fun r11=>chk (inb x10.1 x10.2.1.length) (chk (i64b (x10.1+1)) (rec10 ((x10.1+1),((x10.2.1.set x10.1.toNat r11),x10.2.2))))) else(chk ((capIs (some r8.1.length) r8.1.length)&&(capIs x10.2.2 x10.2.1.length)) (some ((r8.1,x10.2.1),(0:Int))))) fuel (0,(r8.2,(some r8.2.length)))) fun x=>x=((s.1,kindsL s.2.length p),0):=by
  rw[turn_spec (a:=(s.1,s.2)) (by simp only;omega) (by simp only;omega),Option.bind_some]
  rw[turn_spec (a:=(s.1.reverse,s.2.reverse)) (by simp;omega) (by simp;omega),Option.bind_some]
  simp only[List.reverse_reverse]
  refine Ret_bind (ranks_ok (p:=p) hp.in hp.nodup hn (by omega)) fun r ⟨hr,hr2⟩=>?_
  refine Ret_loop (Inv:=fun x:Int×(List Int×Option Nat)=>0≤x.1∧x.1≤s.2.length∧x.2.2=some s.2.length∧x.2.1.length=s.2.length∧∀k:Nat,(k:Int)<x.1→x.2.1.getD k 0=kindF (rkF p) k) (m:=fun x=>((s.2.length:Int)-x.1).toNat) ?_ _ _ ⟨by simp,by simp,rfl,rfl,fun k hk=>by simp at hk;omega⟩ (by simp only[fuel];omega)
  rintro ⟨i,L,cp⟩ rec ⟨i1,i2,i3,i4,i5⟩ ih
  simp only at i1 i2 i3 i4 i5 ⊢
  subst i3
  refine Ret_dec (fun hlt=>?_) fun hge=>?_
  ·rw[kind_ord h hp hr i1 hlt,Option.bind_some]
   refine Ret_chk (inb_t (by omega) (by omega)) (Ret_chk (i64b_t (by omega) (by omega)) (ih _ ⟨by simp only;omega,by simp only;omega,rfl,by simp only[List.length_set];exact i4,fun k hk=>?_⟩ (by simp only;omega)))
   simp only at hk ⊢
   rw[getD_set (by omega)]
   by_cases e:k=i.toNat
   ·rw[if_pos e,show i=(k:Int) by omega]
   ·rw[if_neg e,i5 k (by omega)]
  ·have e:L=kindsL s.2.length p:=ext_getD (by rw[kindsL_len,i4]) fun k hk=>by
    rw[i5 k (by omega),kindsL_at (by omega)]
   exact Ret_chk (by rw[i4];simp[capIs]) (Ret_some (by rw[e]))
 unfold piles_Kinds
 rw[show((s.1,s.2),p)=(s,p) from rfl,Check_ok h hp,Option.bind_some]
 refine Ret_dec (fun g=>Ret_dec (fun g2=>Ret_some ?_) fun g2=>?_) fun g=>?_
 ·have:=chkV_val s p
  rw[if_pos (by omega)]
  congr 1
  omega
 ·rw[if_neg (by omega)];exact walk
 ·rw[if_neg (by omega)];exact walk
theorem valid_kinds {s:List Int×List Int} (h:Valid s) {p:List Int}:Valid (s.1,kindsL s.2.length p):=
 ⟨h.1,by simp only[kindsL_len];exact h.2.1,h.2.2.1,fun x hx=>by have:=kindsL_mem hx;omega⟩
theorem chkV_zero {s:List Int×List Int} {p:List Int} (h1:¬CrossC (endsL s.1) s.1.length (rkF p)) (h2:¬KindBad s.2 p):chkV s p=0:=by
 unfold chkV
 rw[if_neg h1,if_neg h2]
set_option maxHeartbeats 2000000 in
theorem law17_PilesKinds_true {a0 a1 y:List Int} (h0:bytes a0) (h1:bytes a1) (hy:bytes y):law17_PilesKinds fuel ((a0,a1),y)=some true:=by
 apply Ret.eq
 unfold law17_PilesKinds
 refine Ret_bind (law16_T_Of_ok (a:=(a0,a1)) h0 h1) fun s hs=>?_
 have h:=hs.valid
 have hn:=h.1
 have hn1:=hs.1
 have hk2:=h.2.1
 refine Ret_bind (O_Of_ok hy (n:=s.1.length) (by omega)) fun p hp=>?_
 have hl:=hp.len
 rw[show((s.1,s.2),p)=(s,p) from rfl,Kinds_ok h hp,Option.bind_some,check17_ok h hp,Option.bind_some]
 refine Ret_dec (fun g=>?_) fun g=>?_
 ·rw[if_pos g]
  refine Ret_dec (fun _=>Ret_dec (fun _=>?_) fun g2=>absurd (by simp) g2) fun g2=>absurd rfl g2
  rw[lives17];exact Ret_some rfl
 rw[if_neg g]
 have hnc:¬CrossC (endsL s.1) s.1.length (rkF p):=fun hc=>g (chkV_12.2 hc)
 have hvk:=valid_kinds h (p:=p)
 refine Ret_dec (fun g=>absurd rfl g) fun _=>Ret_dec (fun g=>absurd (by simp only[kindsL_len]) g) fun _=>Ret_dec (fun g=>absurd rfl g) fun _=>Ret_dec (fun g=>absurd rfl g) fun _=>?_
 rw[show((s.1,kindsL s.2.length p),p)=((s.1,kindsL s.2.length p),p) from rfl,Check_ok hvk hp,Option.bind_some]
 rw[chkV_zero (s:=(s.1,kindsL s.2.length p)) hnc (by
  rintro ⟨i,a,b,c,d⟩
  simp only[kindsL_len] at b c d
  exact d (by rw[kindsL_at (by omega),show((i.toNat:Nat):Int)=i by omega]))]
 refine Ret_dec (fun g=>absurd rfl g) fun _=>?_
 simp only
 have hkl:=kindsL_len s.2.length p
 have hka:=fun i (hi:i<s.2.length)=>kindsL_at (k:=s.2.length) (p:=p) hi
 have hkm:=fun x (hx:x∈kindsL s.2.length p)=>kindsL_mem hx
 generalize hK:kindsL s.2.length p=K at hkl hka hkm hvk ⊢
 refine Ret_loop (Inv:=fun i:Int=>0≤i∧i≤K.length) (m:=fun i=>((K.length:Int)-i).toNat) ?_ _ _ ⟨by simp,by simp⟩ (by simp only[fuel];omega)
 rintro i rec ⟨i1,i2⟩ ih
 refine Ret_dec (fun hlt=>?_) fun hge=>?_
 ·have:=hkm _ (getD_mem (L:=K) (i:=i.toNat) (by omega))
  exact Ret_chk (inb_t (by omega) (by omega)) (Ret_dec (fun g=>by omega) fun _=>Ret_chk (inb_t (by omega) (by omega)) (Ret_chk (inb_t (by omega) (by omega)) (Ret_dec (fun g=>absurd rfl g) fun _=>Ret_chk (i64b_t (by omega) (by omega)) (ih _ ⟨by omega,by omega⟩ (by omega)))))
 rw[pOver_ok (by omega),Option.bind_some,Turn_ok h hp,Option.bind_some,show((s.1,s.2),(turnL p,(0:Int)).1)=(s,turnL p) from rfl,Turn_ok h hp.turn,Option.bind_some,turnL_turnL]
 simp only
 refine Ret_dec (fun g=>absurd rfl g) fun _=>Ret_dec (fun g=>absurd rfl g) fun _=>Ret_dec (fun g=>absurd rfl g) fun _=>Ret_dec (fun g=>absurd rfl g) fun _=>?_
 refine Ret_loop (Inv:=fun i:Int=>0≤i∧i≤p.length) (m:=fun i=>((p.length:Int)-i).toNat) ?_ _ _ ⟨by simp,by simp⟩ (by simp only[fuel];omega)
 rintro i2 rec2 ⟨j1,j2⟩ ih2
 refine Ret_dec (fun hlt=>?_) fun hge=>?_
 ·exact Ret_chk (inb_t (by omega) (by omega)) (Ret_chk (inb_t (by omega) (by omega)) (Ret_dec (fun g=>absurd rfl g) fun _=>Ret_chk (i64b_t (by omega) (by omega)) (ih2 _ ⟨by omega,by omega⟩ (by omega))))
 refine Ret_dec (fun g=>absurd rfl g) fun _=>Ret_dec (fun g=>absurd rfl g) fun _=>Ret_dec (fun g=>absurd (by simp) g) fun _=>?_
 have htl:=turnL_len p
 have hta:=fun i (hi:i<p.length)=>turnL_at (p:=p) hi
 refine Ret_loop (Inv:=fun i:Int=>0≤i∧i≤p.length) (m:=fun i=>((p.length:Int)-i).toNat) ?_ _ _ ⟨by simp,by simp⟩ (by simp only[fuel];omega)
 rintro i3 rec3 ⟨k1,k2⟩ ih3
 refine Ret_dec (fun hlt=>?_) fun hge=>?_
 ·have hrv:p.reverse.getD ((p.length:Int)-1-i3).toNat 0=p.getD i3.toNat 0:=by
   rw[getD_reverse (by omega),show p.length-1-((p.length:Int)-1-i3).toNat=i3.toNat by omega]
  have hx:=hp.in _ (getD_mem (L:=p) (i:=i3.toNat) (by omega))
  refine Ret_chk (inb_t (by omega) (by omega)) (Ret_chk (by simp) (Ret_dec (fun ge=>?_) fun go=>?_))
  ·have ht:=hta ((p.length:Int)-1-i3).toNat (by omega)
   rw[if_pos (by omega),show p.length-1-((p.length:Int)-1-i3).toNat=i3.toNat by omega] at ht
   exact Ret_chk (i64b_t (by omega) (by omega)) (Ret_chk (i64b_t (by omega) (by omega)) (Ret_chk (inb_t (by omega) (by omega)) (Ret_chk (i64b_t (by omega) (by omega)) (Ret_chk (i64b_t (by omega) (by omega)) (Ret_chk (inb_t (by omega) (by rw[List.length_reverse];omega)) (Ret_chk (inb_t (by omega) (by omega)) (Ret_dec (fun g=>absurd hrv g) fun _=>Ret_chk (i64b_t (by omega) (by omega)) (Ret_chk (inb_t (by omega) (by omega)) (Ret_chk (i64b_t (by omega) (by omega)) (Ret_dec (fun g=>absurd ht g) fun _=>Ret_chk (i64b_t (by omega) (by omega)) (ih3 _ ⟨by omega,by omega⟩ (by omega))))))))))))
  ·have ht:=hta i3.toNat (by omega)
   rw[if_neg (by omega)] at ht
   exact Ret_chk (i64b_t (by omega) (by omega)) (Ret_chk (i64b_t (by omega) (by omega)) (Ret_chk (inb_t (by omega) (by rw[List.length_reverse];omega)) (Ret_chk (inb_t (by omega) (by omega)) (Ret_dec (fun g=>absurd hrv g) fun _=>Ret_chk (i64b_t (by omega) (by omega)) (Ret_chk (inb_t (by omega) (by omega)) (Ret_chk (i64b_t (by omega) (by omega)) (Ret_dec (fun g=>absurd ht g) fun _=>Ret_chk (i64b_t (by omega) (by omega)) (ih3 _ ⟨by omega,by omega⟩ (by omega)))))))))
 have e1:strips_Over fuel (s.1,K)=some (s.1,K.map flipK):=over_spec (by simp only;omega) (by simp only;omega)
 have v1:Valid (s.1,K.map flipK):=⟨h.1,by simp only[List.length_map,hkl];exact h.2.1,h.2.2.1,fun x hx=>by
  obtain⟨z,hz,rfl⟩:=List.mem_map.1 hx
  rcases hkm z hz with rfl | rfl<;>simp[flipK]⟩
 rw[e1,Option.bind_some,Check_ok v1 hp.rev,Option.bind_some]
 rw[chkV_zero (s:=(s.1,K.map flipK)) (fun hc=>hnc (CrossC_neg (fun x a b=>rk_rev hp a b) hc)) (by
  rintro ⟨i,a,b,c,d⟩
  simp only[List.length_map,hkl] at b
  refine d ?_
  simp only
  rw[getD_map (by omega),hka i.toNat (by omega),show((i.toNat:Nat):Int)=i by omega,kindF_rev hp a (by omega)]
  rcases kindF_val (f:=rkF p) (i:=i) with e | e<;>rw[e]<;>rfl)]
 refine Ret_dec (fun _=>?_) fun g=>absurd rfl g
 rw[turn_spec (a:=(s.1,K)) (by simp only;omega) (by simp only;omega),Option.bind_some]
 have v2:=hvk.turn
 have ht2:Ord (s.1.reverse).length (turnL p):=by rw[List.length_reverse];exact hp.turn
 simp only at v2
 rw[Check_ok v2 ht2,Option.bind_some]
 have hf:∀x:Int,0≤x→x<s.1.length→rkF (turnL p) ((s.1.length:Int)-1-x)=if s.1.length%2=0 then(s.1.length:Int)-1-rkF p x else rkF p x:=fun x a b=>rk_turn hp a b
 have hf2:∀x:Int,0≤x→x< (s.1.reverse,s.2.reverse).1.length→rkF p (((s.1.reverse,s.2.reverse).1.length:Int)-1-x)=if(s.1.reverse,s.2.reverse).1.length%2=0 then((s.1.reverse,s.2.reverse).1.length:Int)-1-rkF (turnL p) x else rkF (turnL p) x:=fun x a b=>by
  simp only[List.length_reverse] at b ⊢
  have:=hf ((s.1.length:Int)-1-x) (by omega) (by omega)
  rw[show(s.1.length:Int)-1-((s.1.length:Int)-1-x)=x by omega] at this
  rw[this]
  split<;>omega
 rw[chkV_zero (s:=(s.1.reverse,K.reverse)) (fun hc=>hnc (by
  have:=CrossC_turn (s:=(s.1.reverse,s.2.reverse)) h.turn hf2 (by simp only;exact hc)
  simp only[List.reverse_reverse,List.length_reverse] at this
  exact this)) (by
  rintro ⟨i,a,b,c,d⟩
  simp only[List.length_reverse,hkl] at b
  refine d ?_
  simp only
  rw[getD_reverse (by omega),hka _ (by omega),show((K.length-1-i.toNat:Nat):Int)=(s.1.length:Int)-1-1-i by omega]
  have:=kindF_turn hf (i:=(s.1.length:Int)-1-1-i) (by omega) (by omega)
  rw[←this]
  congr 1;omega)]
 refine Ret_dec (fun _=>?_) fun g=>absurd rfl g
 rw[lives17]
 exact Ret_some rfl
end X
end Go.Vm
namespace Go.Vm
namespace X
open W Go.Proofs.St
theorem T_Of_len {a:List Int×List Int} (h1:bytes a.1) (h2:bytes a.2):Ret (law16_T_Of fuel a) fun s=>OfQ s∧s.1.length≤max 1 a.1.length:=by
 unfold law16_T_Of
 have fin:∀x:Int×(List Int×List Int),(0≤x.1∧x.1≤12∧x.1≤((a.1.length:Nat):Int)∧x.2.1.length=x.1.toNat∧x.2.2.length=x.1.toNat-1∧(∀y∈x.2.1,1≤y∧y≤8)∧∀y∈x.2.2,1≤y∧y≤3)→
   Ret (bif(decide (((x.2.1.length:Nat):Int)=0)) then(some ([1],x.2.2)) else(some (x.2.1,x.2.2))) fun s=>OfQ s∧s.1.length≤max 1 a.1.length:=by
  intro x ⟨i1,i2,i7,i3,i4,i5,i6⟩
  refine Ret_dec (fun h=>Ret_some ⟨⟨by simp,by simp,?_,by simp,i6⟩,by simp only[List.length_singleton];omega⟩) fun h=>Ret_some ⟨⟨?_,?_,?_,i5,i6⟩,by simp only;omega⟩
  ·simp only[List.length_singleton];omega
  all_goals (simp only;omega)
 refine Ret_loop (Inv:=fun x=>0≤x.1∧x.1≤12∧x.1≤((a.1.length:Nat):Int)∧x.2.1.length=x.1.toNat∧x.2.2.length=x.1.toNat-1∧(∀y∈x.2.1,1≤y∧y≤8)∧∀y∈x.2.2,1≤y∧y≤3) (m:=fun x=>(12-x.1).toNat) ?_ _ _ ⟨by simp,by simp,by simp,by simp,by simp,by simp,by simp⟩ (by simp[fuel])
 intro x rec hi ih
 have hI:=hi
 obtain⟨i1,i2,i7,i3,i4,i5,i6⟩:=hi
 refine Ret_dec (fun hlt=>?_) fun _=>fin x hI
 refine Ret_dec (fun h12=>?_) fun _=>fin x hI
 have hb:=h1 _ (getD_mem (i:=x.1.toNat) (by omega))
 refine Ret_chk (inb_t i1 hlt) ?_
 refine Ret_chk (by rw[Bool.and_eq_true];exact⟨decide_eq_true (by omega),rfl⟩) ?_
 refine Ret_chk (i64b_t (by omega) (by omega)) ?_
 refine Ret_chk (i64b_t (by omega) (by omega)) ?_
 refine Ret_chk (lenOk_t (by omega)) ?_
 have e5:=mem_snoc i5 (a:=1+ (a.1.getD x.1.toNat 0)%8) (P:=fun y=>1≤y∧y≤8) (by omega)
 refine Ret_dec (fun hpos=>?_) fun hz=>?_
 ·refine Ret_dec (fun hk=>?_) fun hk=>?_
  ·refine Ret_chk (i64b_t (by omega) (by omega)) ?_
   refine Ret_chk (inb_t (by omega) (by omega)) ?_
   have hb2:=h2 _ (getD_mem (L:=a.2) (i:=(x.1-1).toNat) (by omega))
   refine Ret_chk (by rw[Bool.and_eq_true];exact⟨decide_eq_true (by omega),rfl⟩) ?_
   refine Ret_chk (lenOk_t (by omega)) ?_
   refine Ret_chk (i64b_t (by omega) (by omega)) ?_
   refine ih _ ⟨by simp only;omega,by simp only;omega,by simp only;omega,by simp only[List.length_append,List.length_singleton];omega,by simp only[List.length_append,List.length_singleton];omega,e5,mem_snoc i6 ?_⟩ (by simp only;omega)
   rw[wrap_u8 (by omega) (by omega)];omega
  ·refine Ret_chk (lenOk_t (by omega)) ?_
   refine Ret_chk (i64b_t (by omega) (by omega)) ?_
   exact ih _ ⟨by simp only;omega,by simp only;omega,by simp only;omega,by simp only[List.length_append,List.length_singleton];omega,by simp only[List.length_append,List.length_singleton];omega,e5,mem_snoc i6 (by omega)⟩ (by simp only;omega)
 ·refine Ret_chk (i64b_t (by omega) (by omega)) ?_
  exact ih _ ⟨by simp only;omega,by simp only;omega,by simp only;omega,by simp only[List.length_append,List.length_singleton];omega,by simp only;omega,e5,i6⟩ (by simp only;omega)
def SameP (E:List Int) (n:Nat) (p q:List Int):Prop:=∀i k:Int,0≤k→k<i→i<n→ovl E i.toNat k.toNat=true→(rkF p i<rkF p k↔rkF q i<rkF q k)
theorem ovl_symm {E:List Int} {i k:Nat}:ovl E i k=ovl E k i:=by unfold ovl;rw[Bool.and_comm]
theorem SameP.all {E:List Int} {n:Nat} {p q:List Int} (hp:Ord n p) (hq:Ord n q) (h:SameP E n p q) {i k:Int} (h1:0≤i) (h2:i<n) (h3:0≤k) (h4:k<n) (ho:ovl E i.toNat k.toNat=true):rkF p i<rkF p k↔rkF q i<rkF q k:=by
 rcases Int.lt_trichotomy i k with e | e | e
 ·have:=h k i h1 e h4 (by rw[ovl_symm];exact ho)
  have a:rkF p i≠rkF p k:=fun g=>by have:=rkF_inj (hp.memI h1 h2) (hp.memI h3 h4) g;omega
  have b:rkF q i≠rkF q k:=fun g=>by have:=rkF_inj (hq.memI h1 h2) (hq.memI h3 h4) g;omega
  omega
 ·subst e;omega
 ·exact h i k h3 e h2 ho
theorem SameP.refl {E:List Int} {n:Nat} {p:List Int}:SameP E n p p:=fun _ _ _ _ _ _=>Iff.rfl
def SameS (s:List Int×List Int) (p q:List Int):Prop:=∀t:Int,lo (endsL s.1) s.1.length≤t→t<hi (endsL s.1) s.1.length→overL (endsL s.1) p t=overL (endsL s.1) q t
theorem overL_len {n:Nat} {E p q:List Int} (hp:Ord n p) (hq:Ord n q) (t:Int):(overL E p t).length=(overL E q t).length:=((hp.trans hq.symm).filter _).length_eq
theorem over_same {n:Nat} {E p q:List Int} (hp:Ord n p) (hq:Ord n q) (h:SameP E n p q) (t:Int):overL E p t=overL E q t:=by
 have h1:(overL E p t).Pairwise fun a b=>rkF q a<rkF q b:=by
  have:=(rkF_pw hp.nodup).sublist (List.filter_sublist (p:=isOver E t))
  refine List.Pairwise.imp_of_mem ?_ this
  intro a b ha hb hab
  have ha':=mem_overL.1 ha
  have hb':=mem_overL.1 hb
  have ia:=hp.in a ha'.1
  have ib:=hp.in b hb'.1
  exact(h.all hp hq ia.1 ia.2 ib.1 ib.2 (by simp only[ovl,Bool.and_eq_true,decide_eq_true_eq];omega)).1 hab
 have h2:(overL E p t).Sublist q:=sub_of_pairwise (rkF_pw hq.nodup) h1 fun x hx=>hq.mem_iff.2 (hp.mem_iff.1 (mem_overL.1 hx).1)
 have h3:=h2.filter (isOver E t)
 have e:(overL E p t).filter (isOver E t)=overL E p t:=List.filter_eq_self.2 fun x hx=>(List.mem_filter.1 hx).2
 rw[e] at h3
 exact h3.eq_of_length (overL_len hp hq t)
theorem same_of_over {s:List Int×List Int} (h:Valid s) {p q:List Int} (hp:Ord s.1.length p) (hq:Ord s.1.length q) (hs:SameS s p q):SameP (endsL s.1) s.1.length p q:=fun i k h1 h2 h3 ho=>by
 have key:∀ {p q:List Int},Ord s.1.length p→Ord s.1.length q→SameS s p q→rkF p i<rkF p k→rkF q i<rkF q k:=fun {p q} hp hq hs hlt=>by
  have f1:=frm_lo (s:=s) (i:=i.toNat) (by omega)
  have f2:=frm_lo (s:=s) (i:=k.toNat) (by omega)
  have g1:=frm_too h (i:=i.toNat) (by omega)
  have g2:=frm_too h (i:=k.toNat) (by omega)
  have k1:=E_step h (i:=i.toNat) (by omega)
  have k2:=E_step h (i:=k.toNat) (by omega)
  simp only[ovl,Bool.and_eq_true,decide_eq_true_eq] at ho
  have hst:=hs (max (frm (endsL s.1) i.toNat) (frm (endsL s.1) k.toNat)) (by omega) (by omega)
  have mi:i∈overL (endsL s.1) p (max (frm (endsL s.1) i.toNat) (frm (endsL s.1) k.toNat)):=mem_overL.2 ⟨hp.memI (by omega) h3,by omega,by omega⟩
  have mk:k∈overL (endsL s.1) p (max (frm (endsL s.1) i.toNat) (frm (endsL s.1) k.toNat)):=mem_overL.2 ⟨hp.memI (by omega) (by omega),by omega,by omega⟩
  have sub:=sub_of_pairwise (l:=[i,k]) ((rkF_pw hp.nodup).sublist (List.filter_sublist (p:=isOver (endsL s.1) (max (frm (endsL s.1) i.toNat) (frm (endsL s.1) k.toNat))))) (by simp;exact hlt) (fun x hx=>by
   simp only[List.mem_cons,List.not_mem_nil,or_false] at hx
   rcases hx with rfl | rfl
   ·exact mi
   ·exact mk)
  have sub2:[i,k].Sublist q:=by
   have e:overL (endsL s.1) p (max (frm (endsL s.1) i.toNat) (frm (endsL s.1) k.toNat))=overL (endsL s.1) q (max (frm (endsL s.1) i.toNat) (frm (endsL s.1) k.toNat)):=hst
   unfold overL at e
   rw[e] at sub
   exact sub.trans List.filter_sublist
  have:=(rkF_pw hq.nodup).sublist sub2
  simpa using this
 exact⟨key hp hq hs,key hq hp fun t a b=>(hs t a b).symm⟩
theorem chkV_same {s:List Int×List Int} (h:Valid s) {p q:List Int} (hp:Ord s.1.length p) (hq:Ord s.1.length q) (hs:SameP (endsL s.1) s.1.length p q):chkV s p=chkV s q:=by
 have cr:∀ {p q:List Int},Ord s.1.length p→Ord s.1.length q→(∀t,overL (endsL s.1) p t=overL (endsL s.1) q t)→CrossC (endsL s.1) s.1.length (rkF p)→CrossC (endsL s.1) s.1.length (rkF q):=fun {p q} hp hq ho hc=>by
  obtain⟨i,a,u,hu,hb⟩:=bad_of_cross h hp (rkF_pw hp.nodup) hc
  unfold stk at hb
  rw[ho] at hb
  exact cross_of_bad h hq hu (rkF_pw hq.nodup) hb
 have kd:∀i:Int,0≤i→i<s.2.length→kindF (rkF p) i=kindF (rkF q) i:=fun i a b=>by
  have hk2:=h.2.1
  have ho:=ovl_next h (i:=i.toNat) (by omega)
  unfold kindF
  have:rkF p (i+i%2)<rkF p (i+1-i%2)↔rkF q (i+i%2)<rkF q (i+1-i%2):=hs.all hp hq (by omega) (by omega) (by omega) (by omega) (by
   rcases(by omega:i%2=0∨i%2=1) with e | e
   ·rw[show(i+i%2).toNat=i.toNat by omega,show(i+1-i%2).toNat=i.toNat+1 by omega];exact ho
   ·rw[show(i+i%2).toNat=i.toNat+1 by omega,show(i+1-i%2).toNat=i.toNat by omega,ovl_symm];exact ho)
  by_cases g:rkF p (i+i%2)<rkF p (i+1-i%2)
  ·rw[if_pos g,if_pos (this.1 g)]
  ·rw[if_neg g,if_neg (fun g'=>g (this.2 g'))]
 have ho:=over_same hp hq hs
 have e1:CrossC (endsL s.1) s.1.length (rkF p)↔CrossC (endsL s.1) s.1.length (rkF q):=⟨cr hp hq ho,cr hq hp fun t=>(ho t).symm⟩
 have e2:KindBad s.2 p↔KindBad s.2 q:=by
  constructor
  ·rintro ⟨i,a,b,c,d⟩;exact⟨i,a,b,c,by rw[←kd i a b];exact d⟩
  ·rintro ⟨i,a,b,c,d⟩;exact⟨i,a,b,c,by rw[kd i a b];exact d⟩
 unfold chkV
 by_cases c:CrossC (endsL s.1) s.1.length (rkF p)
 ·rw[if_pos c,if_pos (e1.1 c)]
 ·rw[if_neg c,if_neg (fun g=>c (e1.2 g))]
  by_cases d:KindBad s.2 p
  ·rw[if_pos d,if_pos (e2.1 d)]
  ·rw[if_neg d,if_neg (fun g=>d (e2.2 g))]
theorem Same_ok {s:List Int×List Int} (h:Valid s) {p q:List Int} (hp:Ord s.1.length p) (hq:Ord s.1.length q):Ret (piles_Same fuel (s,(p,q))) fun r=>r.2=0∧(r.1=true↔SameP (endsL s.1) s.1.length p q):=by
 have hn:=h.1
 have hlp:=hp.len
 have hlq:=hq.len
 have hel:=endsL_len s.1
 unfold piles_Same
 rw[show((s.1,s.2),(p,q).1)=(s,p) from rfl,listed_ord h hp,Option.bind_some]
 refine Ret_dec (fun g=>absurd rfl g) fun _=>?_
 rw[show((s.1,s.2),(p,q).2)=(s,q) from rfl,listed_ord h hq,Option.bind_some]
 refine Ret_dec (fun g=>absurd rfl g) fun _=>?_
 refine Ret_bind (ranks_ok (p:=p) hp.in hp.nodup hn (by omega)) fun r ⟨hr,hr2⟩=>Ret_bind (ranks_ok (p:=q) hq.in hq.nodup hn (by omega)) fun r' ⟨hr',hr2'⟩=>?_
 refine Ret_loop (Inv:=fun i:Int=>0≤i∧i≤p.length∧∀i' k:Int,0≤k→k<i'→i'<i→ovl (endsL s.1) i'.toNat k.toNat=true→(rkF p i'<rkF p k↔rkF q i'<rkF q k)) (m:=fun i=>((p.length:Int)-i).toNat) ?_ _ _ ⟨by simp,by simp,fun i' k a b c=>by omega⟩ (by simp only[fuel];omega)
 rintro i rec ⟨i1,i2,i3⟩ ih
 refine Ret_dec (fun hlt=>?_) fun hge=>Ret_some ⟨rfl,fun _ i' k a b c d=>i3 i' k a b (by simp only at hge;omega) d,fun _=>rfl⟩
 simp only at hlt
 refine Ret_loop (Inv:=fun k:Int=>0≤k∧k≤i∧∀k':Int,0≤k'→k'<k→ovl (endsL s.1) i.toNat k'.toNat=true→(rkF p i<rkF p k'↔rkF q i<rkF q k')) (m:=fun k=>(i-k).toNat) ?_ _ _ ⟨by omega,i1,fun k' a b=>by omega⟩ (by simp only[fuel];omega)
 rintro k rec2 ⟨k1,k2,k3⟩ ih2
 refine Ret_dec (fun hlt2=>?_) fun hge2=>?_
 ·have nxt:(ovl (endsL s.1) i.toNat k.toNat=true→(rkF p i<rkF p k↔rkF q i<rkF q k))→Ret (chk (i64b (k+1)) (rec2 (k+1))) fun r=>r.2=0∧(r.1=true↔SameP (endsL s.1) s.1.length p q):=fun hc=>by
   refine Ret_chk (i64b_t (by omega) (by omega)) (ih2 _ ⟨by omega,by omega,fun k' a b=>?_⟩ (by omega))
   by_cases e:k'=k
   ·subst e;exact hc
   ·exact k3 k' a (by omega)
  refine Ret_bind (Ret.of (overlap_ok (L:=s.1) (K:=s.2) (E:=endsL s.1) i1 (by omega) k1 (by omega) (by omega))) fun b hb=>?_
  subst hb
  cases ho:ovl (endsL s.1) i.toNat k.toNat with
  | false=>exact nxt fun g=>by rw[ho] at g;cases g
  | true=>
    refine Ret_chk (inb_t (by omega) (by omega)) (Ret_chk (inb_t (by omega) (by omega)) (Ret_chk (inb_t (by omega) (by omega)) (Ret_chk (inb_t (by omega) (by omega)) ?_)))
    rw[hr.eqF hp i (by omega) (by omega),hr.eqF hp k (by omega) (by omega),hr'.eqF hq i (by omega) (by omega),hr'.eqF hq k (by omega) (by omega)]
    by_cases e:rkF p i<rkF p k↔rkF q i<rkF q k
    ·rw[show(decide (rkF p i<rkF p k)==decide (rkF q i<rkF q k))=true by rw[beq_iff_eq,decide_eq_decide];exact e]
     exact nxt fun _=>e
    ·rw[show(decide (rkF p i<rkF p k)==decide (rkF q i<rkF q k))=false by rw[beq_eq_false_iff_ne,ne_eq,decide_eq_decide];exact e]
     exact Ret_some ⟨rfl,fun g=>(by cases g),fun hs=>absurd (hs i k k1 (by omega) (by omega) ho) e⟩
 ·exact Ret_chk (i64b_t (by omega) (by omega)) (ih _ ⟨by omega,by omega,fun i' k a b c d=>by
   by_cases e:i'=i
   ·subst e;exact k3 k a (by omega) d
   ·exact i3 i' k a b (by omega) d⟩ (by omega))
def ordersL:Nat→List (List Int)
 | 0=>[[]]
 | k+1=>(ordersL k).flatMap fun l=>(List.range (l.length+1)).map fun a=>(l.take a++[(k:Int)])++l.drop a
theorem ordersL_ord:∀ {n:Nat} {l:List Int},l∈ordersL n→Ord n l
 | 0,l,h=>by simp[ordersL] at h;subst h;exact List.Perm.refl _
 | k+1,l,h=>by
   obtain⟨m,hm,h⟩:=List.mem_flatMap.1 h
   obtain⟨a,ha,rfl⟩:=List.mem_map.1 h
   have:=ordersL_ord hm
   unfold Ord
   rw[idL_snoc]
   refine List.Perm.trans ?_ (this.append_right [(k:Int)])
   rw[List.append_assoc]
   refine List.Perm.trans (List.Perm.append_left _ List.perm_append_comm) ?_
   rw[←List.append_assoc,List.take_append_drop]
theorem ordersL_mem:∀ {n:Nat} {l:List Int},Ord n l→l∈ordersL n
 | 0,l,h=>by
   have:=h.len
   rw[List.eq_nil_of_length_eq_zero this];simp[ordersL]
 | k+1,l,h=>by
   obtain⟨A,B,rfl⟩:=List.append_of_mem (h.mem (i:=k) (by omega))
   have ho:Ord k (A++B):=by
    unfold Ord at h ⊢
    rw[idL_snoc] at h
    have h2:((k:Int)::(A++B)).Perm ((k:Int)::idL k):=List.perm_middle.symm.trans (h.trans (List.perm_append_comm (l₁:=idL k) (l₂:=[(k:Int)])))
    exact(List.perm_cons _).1 h2
   refine List.mem_flatMap.2 ⟨A++B,ordersL_mem ho,List.mem_map.2 ⟨A.length,List.mem_range.2 (by rw[List.length_append];omega),?_⟩⟩
   simp
theorem flat_len {n:Nat} {f:List Int→List (List Int)}:∀ {L:List (List Int)},(∀l∈L,(f l).length=n)→(L.flatMap f).length=L.length*n
 | [],_=>by simp
 | a::L,h=>by
   rw[List.flatMap_cons,List.length_append,flat_len fun l hl=>h l (List.mem_cons_of_mem _ hl),h a List.mem_cons_self,List.length_cons,Nat.add_mul]
   omega
theorem ordersL_len {k:Nat}:(ordersL (k+1)).length=(ordersL k).length* (k+1):=
 flat_len fun l hl=>by rw[List.length_map,List.length_range,(ordersL_ord hl).len]
theorem ordersL_le {k:Nat} (h:k≤5):(ordersL k).length≤120:=by
 have h0:(ordersL 0).length=1:=rfl
 have h1:(ordersL 1).length=1:=by rw[ordersL_len (k:=0),h0]
 have h2:(ordersL 2).length=2:=by rw[ordersL_len (k:=1),h1]
 have h3:(ordersL 3).length=6:=by rw[ordersL_len (k:=2),h2]
 have h4:(ordersL 4).length=24:=by rw[ordersL_len (k:=3),h3]
 have h5:(ordersL 5).length=120:=by rw[ordersL_len (k:=4),h4]
 rcases(by omega:k=0∨k=1∨k=2∨k=3∨k=4∨k=5) with rfl | rfl | rfl | rfl | rfl | rfl<;>omega
end X
end Go.Vm
namespace Go.Vm
namespace X
open W Go.Proofs.St
def LexLt (a b:List Int):Prop:=∃m:Nat,m<a.length∧m<b.length∧(∀k:Nat,k<m→a.getD k 0=b.getD k 0)∧a.getD m 0<b.getD m 0
theorem LexLt.trans {a b c:List Int} (h:LexLt a b) (h':LexLt b c):LexLt a c:=by
 obtain⟨m,a1,a2,a3,a4⟩:=h
 obtain⟨k,b1,b2,b3,b4⟩:=h'
 rcases Nat.lt_trichotomy m k with e | e | e
 ·exact⟨m,a1,by omega,fun j hj=>(a3 j hj).trans (b3 j (by omega)),by rw[←b3 m e];exact a4⟩
 ·subst e;exact⟨m,a1,b2,fun j hj=>(a3 j hj).trans (b3 j hj),by omega⟩
 ·exact⟨k,by omega,b2,fun j hj=>(a3 j (by omega)).trans (b3 j hj),by rw[a3 k e];exact b4⟩
theorem eq_of_not_lt {a b:List Int} (hl:a.length=b.length) (h1:¬LexLt a b) (h2:¬LexLt b a):a=b:=by
 have key:∀m:Nat,m≤a.length→∀k:Nat,k<m→a.getD k 0=b.getD k 0:=by
  intro m
  induction m with
  | zero=>intro _ k hk;omega
  | succ m ih=>
    intro hm k hk
    by_cases e:k=m
    ·subst e
     rcases Int.lt_trichotomy (a.getD k 0) (b.getD k 0) with g | g | g
     ·exact absurd ⟨k,by omega,by omega,ih (by omega),g⟩ h1
     ·exact g
     ·exact absurd ⟨k,by omega,by omega,fun j hj=>(ih (by omega) j hj).symm,g⟩ h2
    ·exact ih (by omega) k (by omega)
 exact ext_getD hl fun i hi=>key a.length (Nat.le_refl _) i hi
open Classical in
theorem less_ok {a b:List Int} (h:a.length≤10000):law17_less fuel (a,b)=some (decide (LexLt a b)):=by
 apply Ret.eq
 unfold law17_less
 refine Ret_loop (Inv:=fun i:Int=>0≤i∧i≤a.length∧i≤b.length∧∀k:Nat,(k:Int)<i→a.getD k 0=b.getD k 0) (m:=fun i=>((a.length:Int)-i).toNat) ?_ _ _ ⟨by simp,by simp,by simp,fun k hk=>by omega⟩ (by simp only[fuel];omega)
 rintro i rec ⟨i1,i2,i3,i4⟩ ih
 have no:(¬i<a.length∨¬i<b.length)→¬LexLt a b:=by
  rintro hh ⟨m,a1,a2,a3,a4⟩
  have:=i4 m (by omega)
  omega
 refine Ret_dec (fun hlt=>?_) fun hge=>Ret_some (by rw[decide_eq_false (no (.inl hge))])
 refine Ret_dec (fun hlt2=>?_) fun hge2=>Ret_some (by rw[decide_eq_false (no (.inr hge2))])
 simp only at hlt hlt2
 refine Ret_chk (inb_t (by omega) (by omega)) (Ret_chk (inb_t (by omega) (by omega)) (Ret_dec (fun g=>?_) fun g=>?_))
 ·refine Ret_chk (inb_t (by omega) (by omega)) (Ret_chk (inb_t (by omega) (by omega)) (Ret_some ?_))
  simp only at g ⊢
  rw[decide_eq_decide]
  constructor
  ·intro h';exact⟨i.toNat,by omega,by omega,fun k hk=>i4 k (by omega),h'⟩
  ·rintro ⟨m,a1,a2,a3,a4⟩
   rcases Nat.lt_trichotomy m i.toNat with e | e | e
   ·have:=i4 m (by omega);omega
   ·subst e;exact a4
   ·exact absurd (a3 i.toNat e) g
 ·refine Ret_chk (i64b_t (by omega) (by omega)) (ih _ ⟨by omega,by omega,by omega,fun k hk=>?_⟩ (by omega))
  simp only at g
  by_cases e:(k:Int)=i
  ·rw[show i.toNat=k by omega] at g;exact Classical.not_not.1 g
  ·exact i4 k (by omega)
theorem orders_ok {n:Nat} (hn:n≤5):law17_orders fuel (n:Int)=some (ordersL n):=by
 apply Ret.eq
 unfold law17_orders
 refine Ret_loop (Inv:=fun x:List (List Int)×Int=>0≤x.2∧x.2≤n∧x.1=ordersL x.2.toNat) (m:=fun x=>((n:Int)-x.2).toNat) ?_ _ _ ⟨by simp,by simp,rfl⟩ (by simp only[fuel];omega)
 rintro ⟨out,k⟩ rec ⟨i1,i2,i3⟩ ih
 simp only at i1 i2 i3 ⊢
 refine Ret_dec (fun hlt=>?_) fun hge=>Ret_some (by rw[i3,show k.toNat=n by omega])
 have hle:=ordersL_le (k:=k.toNat) (by omega)
 have hle1:=ordersL_le (k:=k.toNat+1) (by omega)
 have hll:=ordersL_len (k:=k.toNat)
 have hord:∀l∈out,l.length=k.toNat:=fun l hl=>by rw[i3] at hl;exact(ordersL_ord hl).len
 have hout:out.length≤120:=by rw[i3];exact hle
 have fl:∀m:Nat,((out.take m).flatMap fun l=>(List.range (l.length+1)).map fun a=>(l.take a++[k])++l.drop a).length=(out.take m).length* (k.toNat+1):=fun m=>flat_len fun l hl=>by rw[List.length_map,List.length_range,hord l (List.mem_of_mem_take hl)]
 refine Ret_loop (Inv:=fun x:List (List Int)×Int=>0≤x.2∧x.2≤out.length∧x.1=(out.take x.2.toNat).flatMap fun l=>(List.range (l.length+1)).map fun a=>(l.take a++[k])++l.drop a) (m:=fun x=>((out.length:Int)-x.2).toNat) ?_ _ _ ⟨by simp,by simp,by simp⟩ (by simp only[fuel];omega)
 rintro ⟨nx,i⟩ rec2 ⟨j1,j2,j3⟩ ih2
 simp only at j1 j2 j3 ⊢
 refine Ret_dec (fun hlt2=>?_) fun hge2=>?_
 ·have hnx:nx.length≤720:=by
   rw[j3,fl]
   have:(out.take i.toNat).length≤120:=by rw[List.length_take];omega
   have:=Nat.mul_le_mul this (show k.toNat+1≤6 by omega)
   omega
  have hin:=inb_t (i:=i) (n:=out.length) (by omega) (by omega)
  have hm:out.getD i.toNat []∈out:=by rw[List.getD,List.getElem?_eq_getElem (by omega)];exact List.getElem_mem _
  have et:out.take (i+1).toNat=out.take i.toNat++[out.getD i.toNat []]:=by
   rw[show(i+1).toNat=i.toNat+1 by omega,List.take_add_one,List.getD,List.getElem?_eq_getElem (by omega)];rfl
  have hlk:=hord _ hm
  generalize out.getD i.toNat []=l at hm et hlk ⊢
  refine Ret_loop (Inv:=fun x:List (List Int)×Int=>0≤x.2∧x.2≤l.length+1∧x.1=nx++(List.range x.2.toNat).map fun a=>(l.take a++[k])++l.drop a) (m:=fun x=>((l.length:Int)+1-x.2).toNat) ?_ _ _ ⟨by simp,by simp;omega,by simp⟩ (by simp only[fuel];omega)
  rintro ⟨nx2,at_⟩ rec3 ⟨k1,k2,k3⟩ ih3
  simp only at k1 k2 k3 ⊢
  refine Ret_chk hin (Ret_dec (fun hlt3=>?_) fun hge3=>?_)
  ·have hn2:nx2.length≤1000:=by rw[k3];simp;omega
   refine Ret_chk hin (Ret_chk (by simp[bnb];omega) (Ret_chk hin (Ret_chk (by simp[bnb];omega) (Ret_chk (lenOk_t (by simp;omega)) (Ret_chk (lenOk_t (by simp;omega)) (Ret_chk (lenOk_t (by simp;omega)) (Ret_chk (lenOk_t (by omega)) (Ret_chk (i64b_t (by omega) (by omega)) (ih3 _ ⟨by simp only;omega,by simp only;omega,?_⟩ (by simp only;omega))))))))))
   simp only
   rw[show(at_+1).toNat=at_.toNat+1 by omega,List.range_succ,List.map_append,k3,List.append_assoc]
   congr 2
   rw[List.drop_zero,List.nil_append,List.take_of_length_le (l:=l.drop at_.toNat) (by simp)]
   rfl
  ·refine Ret_chk (i64b_t (by omega) (by omega)) (ih2 _ ⟨by simp only;omega,by simp only;omega,?_⟩ (by simp only;omega))
   simp only
   rw[et,List.flatMap_append,k3,j3,show at_.toNat=l.length+1 by omega]
   simp
 ·refine Ret_chk (i64b_t (by omega) (by omega)) (ih _ ⟨by simp only;omega,by simp only;omega,?_⟩ (by simp only;omega))
  simp only
  rw[j3,List.take_of_length_le (by omega),show(k+1).toNat=k.toNat+1 by omega,ordersL,i3,show((k.toNat:Nat):Int)=k by omega]
def Free (E:List Int) (n:Nat) (p o:List Int) (i:Int):Prop:=i∉o∧∀k:Int,0≤k→k<n→k∈o∨rkF p i≤rkF p k∨ovl E i.toNat k.toNat=false
structure Greedy (E:List Int) (n:Nat) (p L:List Int):Prop where
 nd:L.Nodup
 rng:In n L
 free:∀m:Nat,m<L.length→Free E n p (L.take m) (L.getD m 0)
 least:∀m:Nat,m<L.length→∀j:Int,0≤j→j<n→Free E n p (L.take m) j→L.getD m 0≤j
theorem free_ex {E:List Int} {n:Nat} {p o:List Int} (hp:Ord n p) (ho:o.length<n):∃j:Int,0≤j∧j<n∧Free E n p o j:=by
 have hl:=hp.len
 have hex:∃i:Nat,i<p.length∧p.getD i 0∉o:=Classical.byContradiction fun hc=>by
  obtain⟨q,hq⟩:=perm_of_sub (l:=p) (p:=o) hp.nodup fun x hx=>Classical.byContradiction fun hx'=>by
   obtain⟨a,b,c⟩:=at_rkF hx
   exact hc ⟨_,a,by rw[b];exact hx'⟩
  have:=hq.length_eq
  rw[List.length_append] at this
  omega
 obtain⟨i,hi,hni,hmin⟩:∃i:Nat,i<p.length∧p.getD i 0∉o∧∀k:Nat,k<i→p.getD k 0∈o:=by
  obtain⟨i,h1,h2⟩:=hex
  induction i using Nat.strongRecOn with
  | _ i ih=>
    by_cases h:∀k:Nat,k<i→p.getD k 0∈o
    ·exact⟨i,h1,h2,h⟩
    ·have:∃k,k<i∧p.getD k 0∉o:=Classical.byContradiction fun hc=>h fun k hk=>Classical.byContradiction fun g=>hc ⟨k,hk,g⟩
     obtain⟨k,a,b⟩:=this
     exact ih k a (by omega) b
 have hx:=hp.in _ (getD_mem hi)
 refine⟨p.getD i 0,hx.1,hx.2,hni,fun k h0 h1=>?_⟩
 obtain⟨a,b,c⟩:=at_rkF (hp.memI h0 h1)
 rw[rkF_at hp.nodup hi]
 by_cases g:(rkF p k).toNat<i
 ·left;rw[←b];exact hmin _ g
 ·right;left;omega
theorem Greedy.ord {E:List Int} {n:Nat} {p L:List Int} (h:Greedy E n p L) (hl:L.length=n):Ord n L:=by
 obtain⟨q,hq⟩:=perm_of_sub (l:=L) (p:=idL n) h.nd fun x hx=>mem_idL.2 (h.rng x hx)
 have:=hq.length_eq
 rw[List.length_append,idL_len] at this
 have:q=[]:=List.eq_nil_of_length_eq_zero (by omega)
 subst this
 rw[List.append_nil] at hq
 exact hq.symm
theorem take_rk {L:List Int} {n:Nat} (h:Ord n L) {m:Nat} (hm:m≤L.length) {x:Int}:x∈L.take m↔x∈L∧rkF L x<m:=by
 constructor
 ·intro hx
  obtain⟨i,hi,e⟩:=List.mem_iff_getElem.1 hx
  rw[List.length_take] at hi
  have hx':=List.mem_of_mem_take hx
  refine⟨hx',?_⟩
  rw[List.getElem_take] at e
  have:=rkF_at h.nodup (i:=i) (by omega)
  rw[List.getD,List.getElem?_eq_getElem (by omega),Option.getD_some,e] at this
  omega
 ·rintro ⟨h1,h2⟩
  obtain⟨a,b,c⟩:=at_rkF h1
  refine List.mem_iff_getElem.2 ⟨(rkF L x).toNat,by rw[List.length_take];omega,?_⟩
  rw[List.getElem_take]
  rw[List.getD,List.getElem?_eq_getElem a,Option.getD_some] at b
  exact b
theorem Greedy.same {E:List Int} {n:Nat} {p L:List Int} (h:Greedy E n p L) (hp:Ord n p) (hl:L.length=n):SameP E n p L:=by
 have hL:=h.ord hl
 have key:∀i k:Int,0≤i→i<n→0≤k→k<n→ovl E i.toNat k.toNat=true→rkF p k<rkF p i→rkF L k<rkF L i:=fun i k a b c d ho hlt=>by
  obtain⟨q1,q2,q3⟩:=at_rkF (hL.memI a b)
  have hf:=h.free _ q1
  rw[q2] at hf
  rcases hf.2 k c d with g | g | g
  ·have:=(take_rk hL (by omega)).1 g
   omega
  ·omega
  ·rw[ho] at g;cases g
 intro i k h1 h2 h3 ho
 constructor
 ·intro hlt;exact key k i h1 (by omega) (by omega) h3 (by rw[ovl_symm];exact ho) hlt
 ·intro hlt
  have hne:rkF p i≠rkF p k:=fun e=>by
   have:=rkF_inj (hp.memI (by omega) h3) (hp.memI h1 (by omega)) e
   omega
  rcases Int.lt_or_le (rkF p i) (rkF p k) with g | g
  ·exact g
  ·have:=key i k (by omega) h3 h1 (by omega) ho (by omega)
   omega
theorem Greedy.first {E:List Int} {n:Nat} {p L q:List Int} (h:Greedy E n p L) (hp:Ord n p) (hl:L.length=n) (hq:Ord n q) (hs:SameP E n p q):¬LexLt q L:=by
 rintro ⟨m,a1,a2,a3,a4⟩
 have et:q.take m=L.take m:=ext_getD (by rw[List.length_take,List.length_take];omega) fun i hi=>by
  rw[List.length_take] at hi
  have:=a3 i (by omega)
  rw[List.getD,List.getD] at this ⊢
  rw[List.getElem?_take,List.getElem?_take,if_pos (by omega),if_pos (by omega)]
  exact this
 have hx:=hq.in _ (getD_mem (L:=q) (i:=m) a1)
 have hr:=rkF_at hq.nodup a1
 have:=h.least m a2 (q.getD m 0) hx.1 hx.2 ⟨fun g=>?_,fun k h0 h1=>?_⟩
 ·omega
 ·rw[←et] at g
  have:=(take_rk hq (by omega)).1 g
  omega
 ·cases ho:ovl E (q.getD m 0).toNat k.toNat with
  | false=>exact .inr (.inr rfl)
  | true=>
    have:=hs.all hp hq h0 h1 hx.1 hx.2 (by rw[ovl_symm];exact ho)
    by_cases g:rkF p k<rkF p (q.getD m 0)
    ·left
     rw[←et]
     exact(take_rk hq (by omega)).2 ⟨hq.memI h0 h1,by have:=this.1 g;omega⟩
    ·right;left;omega
theorem Greedy.snoc {E:List Int} {n:Nat} {p o:List Int} {i:Int} (h:Greedy E n p o) (h0:0≤i) (h1:i<n) (hf:Free E n p o i) (hm:∀j:Int,0≤j→j<n→Free E n p o j→i≤j):Greedy E n p (o++[i]):=by
 have tk:∀m:Nat,m< (o++[i]).length→(m<o.length∧(o++[i]).take m=o.take m∧(o++[i]).getD m 0=o.getD m 0)∨((o++[i]).take m=o∧(o++[i]).getD m 0=i):=fun m hm=>by
  rw[List.length_append,List.length_singleton] at hm
  by_cases e:m<o.length
  ·left
   refine⟨e,List.take_append_of_le_length (by omega),?_⟩
   rw[List.getD,List.getD,List.getElem?_append_left e]
  ·right
   have:m=o.length:=by omega
   subst this
   refine⟨by simp,by simp[List.getD]⟩
 refine⟨?_,?_,fun m hm'=>?_,fun m hm' j a b c=>?_⟩
 ·rw[List.nodup_append]
  refine⟨h.nd,by simp,fun a ha b hb e=>?_⟩
  simp at hb
  exact hf.1 (by rw[←hb,←e];exact ha)
 ·intro x hx
  rcases List.mem_append.1 hx with g | g
  ·exact h.rng x g
  ·simp at g;subst g;exact⟨h0,h1⟩
 ·rcases tk m hm' with⟨e1,e2,e3⟩ | ⟨e2,e3⟩
  ·rw[e2,e3];exact h.free m e1
  ·rw[e2,e3];exact hf
 ·rcases tk m hm' with⟨e1,e2,e3⟩ | ⟨e2,e3⟩
  ·rw[e2] at c;rw[e3];exact h.least m e1 j a b c
  ·rw[e2] at c;rw[e3];exact hm j a b c
theorem Least_ok {s:List Int×List Int} (h:Valid s) {p:List Int} (hp:Ord s.1.length p):Ret (piles_Least fuel (s,p)) fun r=>r.2=0∧r.1.length=s.1.length∧Greedy (endsL s.1) s.1.length p r.1:=by
 classical
 have hn:=h.1
 have hl:=hp.len
 have hel:=endsL_len s.1
 unfold piles_Least
 rw[show((s.1,s.2),p)=(s,p) from rfl,listed_ord h hp,Option.bind_some]
 refine Ret_dec (fun g=>absurd rfl g) fun _=>?_
 refine Ret_bind (ranks_ok (p:=p) hp.in hp.nodup hn (by omega)) fun r ⟨hr,hr2⟩=>?_
 refine Ret_chk (by simp;omega) ?_
 have hrx:=hr.eqF hp
 refine Ret_loop (Inv:=fun x:((List Int×Nat)×List Bool)=>x.1.1.length≤s.1.length∧x.1.2=p.length∧x.2.length=32∧(∀i:Nat,i<s.1.length→x.2.getD i false=decide ((i:Int)∈x.1.1))∧Greedy (endsL s.1) s.1.length p x.1.1) (m:=fun x=>s.1.length-x.1.1.length) ?_ _ _ ⟨by simp,rfl,rfl,fun i hi=>?_,⟨List.nodup_nil,fun x hx=>by simp at hx,fun m hm=>by simp at hm,fun m hm=>by simp at hm⟩⟩ (by simp only[fuel];omega)
 ·rintro ⟨⟨o,cp⟩,tk⟩ rec ⟨i1,i2,i3,i4,i5⟩ ih
  simp only at i1 i2 i3 i4 i5 ⊢
  subst i2
  refine Ret_dec (fun hlt=>?_) fun hge=>Ret_chk (by simp[capIs];omega) (Ret_some ⟨rfl,by simp only;omega,i5⟩)
  obtain⟨j0,f1,f2,f3⟩:=free_ex (E:=endsL s.1) hp (o:=o) (by omega)
  refine Ret_loop (Inv:=fun x:((List Int×Nat)×(Int×List Bool))=>x.1=(o,p.length)∧x.2.2=tk∧0≤x.2.1∧x.2.1≤p.length∧∀j:Int,0≤j→j<x.2.1→¬Free (endsL s.1) s.1.length p o j) (m:=fun x=>((p.length:Int)-x.2.1).toNat) ?_ _ _ ⟨rfl,rfl,by simp,by simp,fun j a b=>by simp at b;omega⟩ (by simp only[fuel];omega)
  rintro ⟨⟨o',cp'⟩,i,tk'⟩ rec2 ⟨j1,j2,j3,j4,j5⟩ ih2
  simp only[Prod.mk.injEq] at j1 j2 j3 j4 j5 ⊢
  obtain⟨rfl,rfl⟩:=j1
  subst j2
  refine Ret_dec (fun hlt2=>?_) fun hge2=>absurd f3 (j5 j0 f1 (by omega))
  refine Ret_chk (inb_t (by omega) (by omega)) ?_
  refine Ret_loop (Inv:=fun x:Bool×Int=>0≤x.2∧x.2≤p.length∧(x.1=true↔i∉o'∧∀k:Int,0≤k→k<x.2→k∈o'∨rkF p i≤rkF p k∨ovl (endsL s.1) i.toNat k.toNat=false)) (m:=fun x=>((p.length:Int)-x.2).toNat) ?_ _ _ ⟨by simp,by simp,?_⟩ (by simp only[fuel];omega)
  ·rintro ⟨fr,k⟩ rec3 ⟨k1,k2,k3⟩ ih3
   simp only at k1 k2 k3 ⊢
   refine Ret_dec (fun hlt3=>?_) fun hge3=>?_
   ·have nxt:∀b:Bool,(b=true↔fr=true∧(k∈o'∨rkF p i≤rkF p k∨ovl (endsL s.1) i.toNat k.toNat=false))→Ret (chk (i64b (k+1)) (rec3 (b,k+1))) fun r=>r.2=0∧r.1.length=s.1.length∧Greedy (endsL s.1) s.1.length p r.1:=fun b hb=>by
     refine Ret_chk (i64b_t (by omega) (by omega)) (ih3 _ ⟨by simp only;omega,by simp only;omega,?_⟩ (by simp only;omega))
     simp only
     rw[hb,k3]
     constructor
     ·rintro ⟨⟨a,b⟩,c⟩
      refine⟨a,fun k' x y=>?_⟩
      by_cases e:k'=k
      ·subst e;exact c
      ·exact b k' x (by omega)
     ·rintro ⟨a,b⟩
      exact⟨⟨a,fun k' x y=>b k' x (by omega)⟩,b k k1 (by omega)⟩
    cases fr with
    | false=>exact nxt false (by simp)
    | true=>
      simp only[cond_true]
      have hk4:=i4 k.toNat (by omega)
      rw[show((k.toNat:Nat):Int)=k by omega] at hk4
      refine Ret_chk (inb_t (by omega) (by omega)) ?_
      rw[hk4]
      refine Ret_dec (fun g=>nxt true (by simp[g])) fun g=>?_
      refine Ret_chk (inb_t (by omega) (by omega)) (Ret_chk (inb_t (by omega) (by omega)) ?_)
      rw[hrx i (by omega) (by omega),hrx k (by omega) (by omega)]
      refine Ret_dec (fun g2=>nxt true (by simp[g2])) fun g2=>?_
      refine Ret_bind (Ret.of (overlap_ok (L:=s.1) (K:=s.2) (E:=endsL s.1) j3 (by omega) k1 (by omega) (by omega))) fun b hb=>?_
      subst hb
      exact nxt _ (by
       simp only[g,g2,false_or,true_and]
       cases ovl (endsL s.1) i.toNat k.toNat<;>simp)
   ·have hfull:fr=true↔Free (endsL s.1) s.1.length p o' i:=by
     rw[k3]
     unfold Free
     rw[show k=((s.1.length:Nat):Int) by omega]
    cases fr with
    | true=>
      simp only[cond_true]
      have ea:appCap (some p.length) (o'.length+1)=some p.length:=by
       simp only[appCap]
       rw[show(o'.length+1).ble p.length=true by rw[ble_dec];simp;omega];rfl
      rw[ea]
      refine Ret_chk (inb_t (by omega) (by omega)) (Ret_chk (lenOk_t (by omega)) (Ret_chk rfl (ih _ ⟨by simp;omega,rfl,by simp only[List.length_set];exact i3,fun m hm=>?_,i5.snoc j3 (by omega) (hfull.1 rfl) fun j a b c=>?_⟩ (by simp;omega))))
      ·simp only
       rw[List.getD,List.getElem?_set]
       by_cases e:i.toNat=m
       ·rw[if_pos e,if_pos (by omega)]
        simp only[Option.getD_some,List.mem_append,List.mem_singleton]
        rw[show(m:Int)=i by omega]
        simp
       ·rw[if_neg e]
        have:=i4 m hm
        rw[List.getD] at this
        rw[this]
        have hne:¬(m:Int)=i:=by omega
        simp[hne]
      ·rcases Int.lt_or_le j i with g | g
       ·exact absurd c (j5 j a g)
       ·exact g
    | false=>
      refine Ret_chk (i64b_t (by omega) (by omega)) (ih2 _ ⟨rfl,rfl,by simp only;omega,by simp only;omega,fun j a b=>?_⟩ (by simp only;omega))
      simp only at b
      by_cases e:j=i
      ·subst e;exact fun g=>by have:=hfull.2 g;cases this
      ·exact j5 j a (by omega)
  ·simp only
   have hi4:=i4 i.toNat (by omega)
   rw[show((i.toNat:Nat):Int)=i by omega] at hi4
   rw[hi4]
   constructor
   ·intro g
    exact⟨by simpa using g,fun k a b=>by omega⟩
   ·rintro ⟨g,_⟩;simpa using g
 ·simp only
  have:i<32:=by omega
  rw[decide_eq_false (by simp)]
  rcases(by omega:i=0∨i=1∨i=2∨i=3∨i=4∨i=5∨i=6∨i=7∨i=8∨i=9∨i=10∨i=11∨i=12∨i=13∨i=14∨i=15∨i=16∨i=17∨i=18∨i=19∨i=20∨i=21∨i=22∨i=23∨i=24∨i=25∨i=26∨i=27∨i=28∨i=29∨i=30∨i=31) with rfl | rfl | rfl | rfl | rfl | rfl | rfl | rfl | rfl | rfl | rfl | rfl | rfl | rfl | rfl | rfl | rfl | rfl | rfl | rfl | rfl | rfl | rfl | rfl | rfl | rfl | rfl | rfl | rfl | rfl | rfl | rfl<;>rfl
end X
end Go.Vm
namespace Go.Vm
namespace X
open W Go.Proofs.St
theorem cmp_stk {β:Type} {O V:List Int} {b:Bool} {Q:β→Prop} {K:Bool→Option β} (hl:O.length=V.length) (hL:O.length≤10000) (hK:∀c:Bool,(c=true↔b=true∧O=V)→Ret (K c) Q):
  Ret (loopF (fun rec10 (x10:(Bool×Int))=>bif(decide (x10.2< ((O.length:Nat):Int))) then(bif x10.1 then(chk (inb x10.2 O.length) (chk (inb x10.2 V.length) (chk (i64b (x10.2+1)) (rec10 ((decide ((O.getD x10.2.toNat 0)=(V.getD x10.2.toNat 0))),(x10.2+1)))))) else(chk (i64b (x10.2+1)) (rec10 (false,(x10.2+1))))) else(K x10.1)) fuel (b,0)) Q:=by
 refine Ret_loop (Inv:=fun x:Bool×Int=>0≤x.2∧x.2≤O.length∧(x.1=true↔b=true∧∀k:Nat,(k:Int)<x.2→O.getD k 0=V.getD k 0)) (m:=fun x=>((O.length:Int)-x.2).toNat) ?_ _ _ ⟨by simp,by simp,by simp only;exact⟨fun g=>⟨g,fun k hk=>by omega⟩,fun g=>g.1⟩⟩ (by simp only[fuel];omega)
 rintro ⟨c,i⟩ rec ⟨i1,i2,i3⟩ ih
 simp only at i1 i2 i3 ⊢
 refine Ret_dec (fun hlt=>?_) fun hge=>hK c (i3.trans ⟨fun g=>⟨g.1,ext_getD hl fun k hk=>g.2 k (by omega)⟩,fun g=>⟨g.1,fun k hk=>by rw[g.2]⟩⟩)
 have nxt:∀d:Bool,(d=true↔c=true∧O.getD i.toNat 0=V.getD i.toNat 0)→Ret (chk (i64b (i+1)) (rec (d,i+1))) Q:=fun d hd=>by
  refine Ret_chk (i64b_t (by omega) (by omega)) (ih _ ⟨by simp only;omega,by simp only;omega,?_⟩ (by simp only;omega))
  simp only
  rw[hd,i3]
  constructor
  ·rintro ⟨⟨a,e⟩,g⟩
   refine⟨a,fun k hk=>?_⟩
   by_cases e':(k:Int)=i
   ·rw[show k=i.toNat by omega];exact g
   ·exact e k (by omega)
  ·rintro ⟨a,e⟩
   exact⟨⟨a,fun k hk=>e k (by omega)⟩,e i.toNat (by omega)⟩
 cases c with
 | true=>exact Ret_chk (inb_t (by omega) (by omega)) (Ret_chk (inb_t (by omega) (by omega)) (nxt _ (by simp)))
 | false=>exact nxt false (by simp)
set_option maxRecDepth 100000 in
set_option maxHeartbeats 1000000 in
theorem law17_PilesLeast_true {a0 a1 y:List Int} (h0:bytes a0) (h1:bytes a1) (hy:bytes y):law17_PilesLeast fuel ((a0,a1),y)=some true:=by
 classical
 apply Ret.eq
 unfold law17_PilesLeast
 refine Ret_chk (by simp[bnb];omega) ?_
 have hb0:bytes ((a0.drop 0).take (min ((a0.length:Nat):Int) 5).toNat):=fun x hx=>h0 x (by rw[List.drop_zero] at hx;exact List.mem_of_mem_take hx)
 refine Ret_bind (T_Of_len (a:=((a0.drop 0).take (min ((a0.length:Nat):Int) 5).toNat,a1)) hb0 h1) fun s ⟨hs,hlen⟩=>?_
 have h:=hs.valid
 have hn5:s.1.length≤5:=by
  simp only[List.length_take] at hlen
  omega
 refine Ret_bind (O_Of_ok hy (n:=s.1.length) (by omega)) fun p hp=>?_
 have hl:=hp.len
 have hel:=endsL_len s.1
 refine Ret_bind (Least_ok h hp) fun L ⟨hL0,hLl,hLg⟩=>?_
 rw[show(s.1,s.2)=s from rfl,strips_Span_valid h,Option.bind_some]
 refine Ret_dec (fun g=>absurd hL0 g) fun _=>Ret_dec (fun g=>absurd rfl g) fun _=>?_
 rw[orders_ok (n:=p.length) (by omega),Option.bind_some,hl]
 have hoLe:=ordersL_le hn5
 have hLord:=hLg.ord hLl
 have hLsame:=hLg.same hp hLl
 obtain⟨il,l1,l2⟩:=lo_at (E:=endsL s.1) (k:=s.1.length)
 obtain⟨ih_,u1,u2⟩:=hi_at (E:=endsL s.1) (k:=s.1.length)
 have bl:=E_bd h l1
 have bu:=E_bd h u1
 rw[←l2] at bl
 rw[←u2] at bu
 have hss:∀q:List Int,Ord s.1.length q→(SameS s p q↔SameP (endsL s.1) s.1.length p q):=fun q hq=>⟨same_of_over h hp hq,fun hh t _ _=>over_same hp hq hh t⟩
 unfold SameS at hss
 simp only
 generalize lo (endsL s.1) s.1.length=l at *
 generalize hi (endsL s.1) s.1.length=u at *
 have hmem:∀q:List Int,q∈ordersL s.1.length↔Ord s.1.length q:=fun q=>⟨ordersL_ord,ordersL_mem⟩
 generalize ordersL s.1.length=R at hoLe hmem ⊢
 refine Ret_loop (Inv:=fun x:List Int×Int=>0≤x.2∧x.2≤R.length∧Ord s.1.length x.1∧SameP (endsL s.1) s.1.length p x.1∧∀k:Nat,(k:Int)<x.2→SameP (endsL s.1) s.1.length p (R.getD k [])→¬LexLt (R.getD k []) x.1) (m:=fun x=>((R.length:Int)-x.2).toNat) ?_ _ _ ⟨by simp,by simp,hp,SameP.refl,fun k hk=>by simp at hk;omega⟩ (by simp only[fuel];omega)
 rintro ⟨F,i⟩ rec ⟨i1,i2,i3,i4,i5⟩ ih
 simp only at i1 i2 i3 i4 i5 ⊢
 refine Ret_dec (fun hlt=>?_) fun hge=>?_
 ·have hin:=inb_t (i:=i) (n:=R.length) (by omega) (by omega)
  have hqm:R.getD i.toNat []∈R:=by rw[List.getD,List.getElem?_eq_getElem (by omega)];exact List.getElem_mem _
  have hq:=(hmem _).1 hqm
  generalize hqe:R.getD i.toNat []=q at hqm hq ⊢
  have hql:=hq.len
  refine Ret_loop (Inv:=fun x:Bool×Int=>(l≤x.2∧(x.2≤u∨x.2=l))∧(x.1=true↔∀t:Int,l≤t→t<x.2→overL (endsL s.1) p t=overL (endsL s.1) q t)) (m:=fun x=>(3001-x.2).toNat) ?_ _ _ ⟨⟨Int.le_refl _,.inr rfl⟩,by simp only;exact⟨fun _ t a b=>by omega,fun _=>trivial⟩⟩ (by simp only[fuel];omega)
  rintro ⟨b,t⟩ rec2 ⟨j1,j2⟩ ih2
  simp only at j1 j2 ⊢
  refine Ret_dec (fun hlt2=>?_) fun hge2=>?_
  ·rw[over_ok h hp.in (by omega),Option.bind_some]
   refine Ret_chk hin ?_
   rw[over_ok h hq.in (by omega),Option.bind_some]
   have ho:=overL_len (E:=endsL s.1) hp hq t
   have hol:(overL (endsL s.1) p t).length≤p.length:=List.length_filter_le _ _
   refine cmp_stk (b:=b) (K:=fun c=>chk (i64b (t+1)) (rec2 (c,t+1))) ho (by omega) fun c hc=>Ret_chk (i64b_t (by omega) (by omega)) (ih2 _ ⟨by simp only;omega,?_⟩ (by simp only;omega))
   simp only
   rw[hc,j2]
   constructor
   ·rintro ⟨a,e⟩ t' x y'
    by_cases g:t'=t
    ·subst g;exact e
    ·exact a t' x (by omega)
   ·intro a
    exact⟨fun t' x y'=>a t' x (by omega),a t j1.1 (by omega)⟩
  ·have hbs:b=true↔SameP (endsL s.1) s.1.length p q:=by
    rw[j2,←hss q hq]
    exact⟨fun a t' x y'=>a t' x (by omega),fun a t' x y'=>a t' x (by omega)⟩
   refine Ret_chk hin (Ret_bind (Same_ok h hp hq) fun r ⟨r1,r2⟩=>?_)
   refine Ret_dec (fun g=>absurd r1 g) fun _=>?_
   have hrb:r.1=b:=Bool.eq_iff_iff.2 (r2.trans hbs.symm)
   rw[hrb]
   simp only[beq_self_eq_true,Bool.not_true,cond_false]
   have old:∀F':List Int,Ord s.1.length F'→SameP (endsL s.1) s.1.length p F'→(∀k:Nat,(k:Int)<i→SameP (endsL s.1) s.1.length p (R.getD k [])→¬LexLt (R.getD k []) F')→(SameP (endsL s.1) s.1.length p q→¬LexLt q F')→Ret (chk (i64b (i+1)) (rec (F',i+1))) fun x=>x=true:=fun F' a1 a2 a3 a4=>by
    refine Ret_chk (i64b_t (by omega) (by omega)) (ih _ ⟨by simp only;omega,by simp only;omega,a1,a2,fun k hk=>?_⟩ (by simp only;omega))
    simp only at hk ⊢
    by_cases e:(k:Int)=i
    ·rw[show k=i.toNat by omega,hqe];exact a4
    ·exact a3 k (by omega)
   cases b with
   | false=>exact old F i3 i4 i5 fun g=>by have:=hbs.2 g;cases this
   | true=>
     have hsm:=hbs.1 rfl
     simp only[cond_true]
     refine Ret_chk hin ?_
     rw[show((s.1,s.2),q)=(s,q) from rfl,Check_ok h hq,Option.bind_some,Check_ok h hp,Option.bind_some]
     refine Ret_dec (fun g=>absurd (chkV_same h hp hq hsm).symm g) fun _=>Ret_chk hin ?_
     rw[less_ok (by omega),Option.bind_some]
     refine Ret_dec (fun g=>Ret_chk hin (old q hq hsm (fun k hk hs' hlt'=>i5 k hk hs' (hlt'.trans g)) fun _ hlt'=>?_)) fun g=>old F i3 i4 i5 fun _=>g
     obtain⟨m,_,_,_,e⟩:=hlt'
     omega
 ·have hF:=i3.len
  obtain⟨k,hk,e⟩:=List.mem_iff_getElem.1 ((hmem L.1).2 hLord)
  have ek:R.getD k []=L.1:=by rw[List.getD,List.getElem?_eq_getElem hk];exact e
  have n1:=i5 k (by omega)
  rw[ek] at n1
  have eF:L.1=F:=eq_of_not_lt (by omega) (n1 hLsame) (hLg.first hp hLl i3 i4)
  rw[eF]
  refine Ret_dec (fun g=>absurd rfl g) fun _=>Ret_dec (fun g=>absurd rfl g) fun _=>?_
  refine Ret_loop (Inv:=fun i:Int=>0≤i∧i≤F.length) (m:=fun i=>((F.length:Int)-i).toNat) ?_ _ _ ⟨by simp,by simp⟩ (by simp only[fuel];omega)
  rintro i2' rec2 ⟨j1,j2⟩ ih2
  refine Ret_dec (fun hlt2=>?_) fun hge2=>?_
  ·exact Ret_chk (inb_t (by omega) (by omega)) (Ret_chk (inb_t (by omega) (by omega)) (Ret_dec (fun g=>absurd rfl g) fun _=>Ret_chk (i64b_t (by omega) (by omega)) (ih2 _ ⟨by omega,by omega⟩ (by omega))))
  ·rw[lives17]
   exact Ret_some rfl
end X
end Go.Vm
namespace Go.Vm
namespace X
open W Go.Proofs.St
theorem u8_wrap (z:Int):0≤IntKind.u8.wrap z∧IntKind.u8.wrap z≤255:=by
 simp[IntKind.wrap,IntKind.bits,IntKind.signed];omega
theorem law17_PilesKnown_true:law17_PilesKnown fuel ()=some true:=by
 apply Ret.eq
 unfold law17_PilesKnown
 refine Ret_loop (Inv:=fun x:Int×Int=>0≤x.2∧x.2≤40∧0≤x.1∧x.1≤100003) (m:=fun x=>(40-x.2).toNat) ?_ _ _ ⟨by simp,by simp,by simp,by simp⟩ (by simp[fuel])
 rintro ⟨z,i⟩ rec ⟨i1,i2,i3,i4⟩ ih
 simp only at i1 i2 i3 i4 ⊢
 refine Ret_dec (fun hlt=>?_) fun hge=>by rw[lives17];exact Ret_some rfl
 refine Ret_loop (Inv:=fun x:Int×(List Int×(Int×(List Int×List Int)))=>0≤x.1∧x.1≤100003∧bytes x.2.1∧0≤x.2.2.1∧x.2.2.1≤6∧bytes x.2.2.2.1∧bytes x.2.2.2.2∧(x.2.1.length:Int)=x.2.2.1∧(x.2.2.2.1.length:Int)=x.2.2.1∧(x.2.2.2.2.length:Int)=x.2.2.1) (m:=fun x=>(6-x.2.2.1).toNat) ?_ _ _ ⟨i3,i4,(fun x hx=>by simp at hx),by simp,by simp,(fun x hx=>by simp at hx),(fun x hx=>by simp at hx),rfl,rfl,rfl⟩ (by simp[fuel])
 rintro ⟨w,y,k,a,b⟩ rec2 ⟨j1,j2,j3,j4,j5,j6,j7,j8,j9,j10⟩ ih2
 simp only at j1 j2 j3 j4 j5 j6 j7 j8 j9 j10 ⊢
 have wr:∀v:Int, -9223372036854775808≤v→v≤9223372036854775807→IntKind.i64.wrap v=v:=fun v h1 h2=>i64b_ok (i64b_t h1 h2)
 refine Ret_chk (by simp;omega) (Ret_chk (i64b_t (by omega) (by omega)) (Ret_dec (fun hlt2=>?_) fun hge2=>?_))
 ·have sn:∀(L:List Int) (v:Int),bytes L→bytes (L++[IntKind.u8.wrap v]):=fun L v h x hx=>by
   rcases List.mem_append.1 hx with g | g
   ·exact h x g
   ·simp at g;subst g;exact u8_wrap v
  refine Ret_chk (by simp;omega) (Ret_chk (lenOk_t (by omega)) (Ret_chk (by rw[wr _ (by omega) (by omega)];simp;omega) (Ret_chk (lenOk_t (by omega)) (Ret_chk (by rw[wr _ (by omega) (by omega)];simp;omega) (Ret_chk (lenOk_t (by omega)) ?_)))))
  refine Ret_chk (i64b_t (by omega) (by omega)) (Ret_chk (i64b_t (by omega) (by omega)) (Ret_chk (i64b_t (by omega) (by omega)) (Ret_chk (i64b_t (by omega) (by omega)) (Ret_chk (by simp;omega) (Ret_chk (i64b_t (by omega) (by omega)) (ih2 _ ⟨by simp only;omega,by simp only;omega,sn _ _ j3,by simp only;omega,by simp only;omega,sn _ _ j6,sn _ _ j7,by simp;omega,by simp;omega,by simp;omega⟩ (by simp only;omega)))))))
 ·rw[law17_PilesCheck_true j6 j7 j3,Option.bind_some]
  simp only[Bool.not_true,cond_false]
  rw[law17_PilesLeast_true j6 j7 j3,Option.bind_some]
  simp only[Bool.not_true,cond_false]
  rw[law17_PilesKinds_true j6 j7 j3,Option.bind_some]
  simp only[Bool.not_true,cond_false]
  refine Ret_chk (by simp;omega) (Ret_chk (by simp;omega) ?_)
  rw[law17_PilesProfile_true j6 j7,Option.bind_some]
  simp only[Bool.not_true,cond_false]
  exact Ret_chk (i64b_t (by omega) (by omega)) (ih _ ⟨by simp only;omega,by simp only;omega,j1,j2⟩ (by simp only;omega))
end X
end Go.Vm
