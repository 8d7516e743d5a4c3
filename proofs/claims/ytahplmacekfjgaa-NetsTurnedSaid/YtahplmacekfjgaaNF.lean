/-
  Nets: the law's nets: squares sorted, hinges in order.
  Nets: the law's hinges in order; trees.
  Nets: the law's tree is a valid net.
  Nets: the law's net with all its hinges; the law's helpers.
  Nets: the law NetsPlace.
  Nets: the chapter's examples, run by the kernel.
-/
import Derived.Test.YtahplmacekfjgaaNB
set_option linter.unusedSimpArgs false
set_option linter.unusedVariables false
set_option linter.unusedSectionVars false
set_option linter.unnecessarySimpa false
namespace Go.Vm
namespace X
open W
variable {nn:Nat}
def besS (s:SqT) (d:Int):SqT:=if d=0 then(s.1+1,s.2) else if d=1 then(s.1,s.2+1) else if d=2 then(s.1-1,s.2) else(s.1,s.2-1)
def smallS (B:Int) (s:SqT):Prop:=(-B≤s.1∧s.1≤B)∧(-B≤s.2∧s.2≤B)
theorem besS_small {B:Int} {s:SqT} {d:Int} (h:smallS B s):smallS (B+1) (besS s d):=by
 unfold smallS besS at *
 repeat' split
 all_goals (simp only;omega)
theorem beside_ok {B:Int} {s:SqT} {d:Int} (h:smallS B s) (hB:B≤1000):law38_beside (fu nn) (s,d)=some (besS s d):=by
 unfold smallS at h
 unfold law38_beside besS
 simp only
 by_cases h0:d=0
 ·rw[decide_eq_true h0,cond_true,if_pos h0,chk_t (i64b_t (by omega) (by omega))]
 rw[decide_eq_false h0,cond_false,if_neg h0]
 by_cases h1:d=1
 ·rw[decide_eq_true h1,cond_true,if_pos h1,chk_t (i64b_t (by omega) (by omega))]
 rw[decide_eq_false h1,cond_false,if_neg h1]
 by_cases h2:d=2
 ·rw[decide_eq_true h2,cond_true,if_pos h2,chk_t (i64b_t (by omega) (by omega))]
 rw[decide_eq_false h2,cond_false,if_neg h2,chk_t (i64b_t (by omega) (by omega))]
theorem less_ok (s t:SqT):law38_less (fu nn) (s,t)=some (decide (ltS s t)):=by
 apply Ret.eq
 unfold law38_less
 refine Ret_dec (fun g=>Ret_some ?_) fun g=>Ret_dec (fun g2=>Ret_some ?_) fun g2=>Ret_some ?_
 ·rw[decide_eq_true (show ltS s t from .inl g)]
 ·rw[decide_eq_decide]
  exact⟨fun c=>.inr ⟨g2,c⟩,fun c=>by rcases c with c | c;exact absurd c g;exact c.2⟩
 ·rw[decide_eq_false]
  rintro (c | c)
  ·exact g c
  ·exact g2 c.1
theorem sq_eq (s t:SqT):(decide (s.1=t.1)&&decide (s.2=t.2))=decide (s=t):=by
 rw[Bool.eq_iff_iff]
 simp only[Bool.and_eq_true,decide_eq_true_eq]
 exact⟨fun h=>Prod.ext h.1 h.2,fun h=>by rw[h];exact⟨rfl,rfl⟩⟩
theorem has_ok {L:List SqT} (hl:L.length≤10000) (s:SqT):law38_has (fu nn) (L,s)=some (decide (s∈L)):=by
 apply Ret.eq
 unfold law38_has
 simp only
 refine Ret_loop (Inv:=fun i:Int=>0≤i∧i≤L.length∧∀k:Nat,(k:Int)<i→L.getD k (0,0)≠s) (m:=fun i=>((L.length:Int)-i).toNat) ?_ _ _ ⟨by simp,by simp,fun k hk=>by omega⟩ (by simp only[fu];omega)
 rintro i rec ⟨i1,i2,i3⟩ ih
 refine Ret_dec (fun hlt=>?_) fun hge=>?_
 ·rw[show(decide ((L.getD i.toNat (0,0)).1=s.1)&&decide ((L.getD i.toNat (0,0)).2=s.2))=decide (L.getD i.toNat (0,0)=s) from sq_eq _ _]
  refine Ret_chk (inb_t (by omega) (by omega)) (Ret_dec (fun g=>Ret_some ?_) fun g=>Ret_chk (i64b_t (by omega) (by omega)) (ih _ ⟨by omega,by omega,fun k hk=>?_⟩ (by omega)))
  ·rw[decide_eq_true]
   rw[←g];exact getD_memS (by omega)
  ·by_cases e:(k:Int)=i
   ·rw[show k=i.toNat by omega];exact g
   ·exact i3 k (by omega)
 ·refine Ret_some ?_
  rw[decide_eq_false]
  intro c
  obtain⟨k,hk,e⟩:=List.mem_iff_getElem.1 c
  have:=i3 k (by omega)
  rw[List.getD,List.getElem?_eq_getElem hk] at this
  exact this e
theorem sorted_ok {L:List SqT} (hn:L.Nodup) (hl:L.length≤1000):Ret (law38_sorted (fu nn) L) fun o=>Sorted o∧o.Perm L:=by
 unfold law38_sorted
 refine Ret_loop (Inv:=fun x:List SqT×Int=>0≤x.2∧x.2≤L.length∧Sorted x.1∧x.1.Perm (L.take x.2.toNat)) (m:=fun x=>((L.length:Int)-x.2).toNat) ?_ _ _ ⟨by simp,by simp,List.Pairwise.nil,by simp⟩ (by simp only[fu];omega)
 rintro ⟨o,i⟩ rec ⟨i1,i2,i3,i4⟩ ih
 simp only at i1 i2 i3 i4 ⊢
 have hol:o.length=i.toNat:=by rw[i4.length_eq,List.length_take];omega
 refine Ret_dec (fun hlt=>?_) fun hge=>Ret_some ⟨i3,by rw[List.take_of_length_le (by omega)] at i4;exact i4⟩
 have hs:L.getD i.toNat (0,0)=L[i.toNat]:=by rw[List.getD,List.getElem?_eq_getElem (by omega)];rfl
 have hno:L.getD i.toNat (0,0)∉o:=fun c=>by
  have:=i4.mem_iff.1 c
  obtain⟨m,hm,e⟩:=List.mem_iff_getElem.1 this
  rw[List.length_take] at hm
  rw[List.getElem_take,hs] at e
  have q1:=hn.idxOf_getElem m (by omega)
  have q2:=hn.idxOf_getElem i.toNat (by omega)
  rw[e] at q1
  omega
 have het:L.take (i+1).toNat=L.take i.toNat++[L.getD i.toNat (0,0)]:=by
  rw[show(i+1).toNat=i.toNat+1 by omega,List.take_add_one,List.getD,List.getElem?_eq_getElem (by omega)];rfl
 generalize L.getD i.toNat (0,0)=s at *
 have put:∀a:Nat,a≤o.length→(∀k:Nat,a≤k→k<o.length→ltS s (o.getD k (0,0)))→(∀k:Nat,k<a→ltS (o.getD k (0,0)) s)→Sorted ((o.take a++[s])++o.drop a)∧((o.take a++[s])++o.drop a).Perm (L.take (i+1).toNat):=fun a ha h1 h2=>by
  refine⟨?_,?_⟩
  ·unfold Sorted
   rw[List.pairwise_append,List.pairwise_append]
   have p1:∀x∈o.take a,ltS x s:=fun x hx=>by
    obtain⟨m,hm,e⟩:=List.mem_iff_getElem.1 hx
    rw[List.length_take] at hm
    have:=h2 m (by omega)
    rw[List.getElem_take] at e
    rw[List.getD,List.getElem?_eq_getElem (by omega),Option.getD_some,e] at this
    exact this
   have p2:∀x∈o.drop a,ltS s x:=fun x hx=>by
    obtain⟨m,hm,e⟩:=List.mem_iff_getElem.1 hx
    rw[List.length_drop] at hm
    have:=h1 (a+m) (by omega) (by omega)
    rw[List.getElem_drop] at e
    rw[List.getD,List.getElem?_eq_getElem (by omega),Option.getD_some,e] at this
    exact this
   refine⟨⟨List.Pairwise.sublist (List.take_sublist _ _) i3,List.pairwise_singleton _ _,fun x hx y hy=>by simp at hy;rw[hy];exact p1 x hx⟩,List.Pairwise.sublist (List.drop_sublist _ _) i3,fun x hx y hy=>?_⟩
   rcases List.mem_append.1 hx with c | c
   ·exact ltS_trans (p1 x c) (p2 y hy)
   ·simp at c;rw[c];exact p2 y hy
  ·rw[het]
   refine List.Perm.trans ?_ (List.Perm.append_right [s] i4)
   rw[List.append_assoc]
   refine List.Perm.trans (List.Perm.append_left _ List.perm_append_comm) ?_
   rw[←List.append_assoc,List.take_append_drop]
 have fin:∀a:Int,0≤a→a≤o.length→(∀k:Nat,a≤(k:Int)→k<o.length→ltS s (o.getD k (0,0)))→(∀k:Nat,(k:Int)<a→ltS (o.getD k (0,0)) s)→
   Ret (chk (bnb 0 a o.length) (chk (inb i L.length) (chk (bnb a ((o.length:Nat):Int) o.length) (chk (lenOk (0+ ((o.drop 0).take a.toNat).length)) (chk (lenOk (([]++((o.drop 0).take a.toNat)).length+1)) (chk (lenOk ((([]++((o.drop 0).take a.toNat))++[(s.1,s.2)]).length+ ((o.drop a.toNat).take (o.length-a.toNat)).length)) (chk (i64b (i+1)) (rec (((([]++((o.drop 0).take a.toNat))++[(s.1,s.2)])++((o.drop a.toNat).take (o.length-a.toNat))),(i+1)))))))))) (fun o=>Sorted o∧o.Perm L):=fun a a0 a1 h1 h2=>by
  obtain⟨q1,q2⟩:=put a.toNat (by omega) (fun k hk h=>h1 k (by omega) h) fun k hk=>h2 k (by omega)
  have et:(o.drop a.toNat).take (o.length-a.toNat)=o.drop a.toNat:=List.take_of_length_le (by simp)
  rw[et,List.drop_zero,List.nil_append]
  refine Ret_chk (by simp[bnb];omega) (Ret_chk (inb_t (by omega) (by omega)) (Ret_chk (by simp[bnb];omega) (Ret_chk (lenOk_t (by simp;omega)) (Ret_chk (lenOk_t (by simp;omega)) (Ret_chk (lenOk_t (by simp;omega)) (Ret_chk (i64b_t (by omega) (by omega)) (ih _ ⟨by simp only;omega,by simp only;omega,q1,q2⟩ (by simp only;omega))))))))
 refine Ret_loop (Inv:=fun a:Int=>0≤a∧a≤o.length∧∀k:Nat,a≤(k:Int)→k<o.length→ltS s (o.getD k (0,0))) (m:=fun a=>a.toNat) ?_ _ _ ⟨by omega,by omega,fun k hk h=>by omega⟩ (by simp only[fu];omega)
 rintro a rec2 ⟨a0,a1,a2⟩ ih2
 refine Ret_dec (fun hpos=>?_) fun hz=>fin a a0 a1 a2 fun k hk=>by omega
 refine Ret_chk (inb_t (by omega) (by omega)) (Ret_chk (i64b_t (by omega) (by omega)) (Ret_chk (inb_t (by omega) (by omega)) ?_))
 rw[show law38_less (fu nn) ((s.1,s.2),((o.getD (a-1).toNat (0,0)).1,(o.getD (a-1).toNat (0,0)).2))=some (decide (ltS s (o.getD (a-1).toNat (0,0)))) from less_ok _ _,Option.bind_some]
 refine Ret_dec (fun g=>Ret_chk (i64b_t (by omega) (by omega)) (ih2 _ ⟨by omega,by omega,fun k hk h=>?_⟩ (by omega))) fun g=>fin a a0 a1 a2 fun k hk=>?_
 ·by_cases e:(k:Int)=a-1
  ·rw[show k=(a-1).toNat by omega];exact g
  ·exact a2 k (by omega) h
 ·have top:ltS (o.getD (a-1).toNat (0,0)) s:=by
   rcases ltS_tri (o.getD (a-1).toNat (0,0)) s with c | c | c
   ·exact c
   ·exact absurd (by rw[←c];exact getD_memS (by omega)) hno
   ·exact absurd c g
  by_cases e:k=(a-1).toNat
  ·rw[e];exact top
  ·exact ltS_trans (i3.lt (i:=k) (j:=(a-1).toNat) (by omega) (by omega)) top
end X
end Go.Vm
namespace Go.Vm
namespace X
open W
variable {nn:Nat}
def KD (H:List HgT):Prop:=H.Pairwise fun a b=>¬(a.1=b.1∧a.2.1=b.2.1)
theorem wayH_bd (h:HgT):wayH h=0∨wayH h=1:=by unfold wayH;split<;>simp
theorem wayH_eq {g h:HgT}:wayH g=wayH h↔g.2.1=h.2.1:=by
 unfold wayH
 cases g.2.1<;>cases h.2.1<;>simp
theorem ltH_irr (h:HgT):¬ltH h h:=by
 rintro (c | c)
 ·exact ltS_irr _ c
 ·omega
def MH (S:List SqT) (H:List HgT) (i w k:Int) (g:HgT):Prop:=(∃m:Nat,(m:Int)<i∧g.1=S.getD m (0,0))∨(g.1=S.getD i.toNat (0,0)∧(wayH g<w∨(wayH g=w∧∃q:Nat,(q:Int)<k∧H.getD q hZ=g)))
theorem hinges_ok {S:List SqT} {H:List HgT} (hS:Sorted S) (hK:KD H) (hs:S.length≤1000) (hl:H.length≤1000):Ret (law38_hinges (fu nn) (S,H)) fun o=>o.Pairwise ltH∧∀g,g∈o↔g∈H∧g.1∈S:=by
 have cnt:∀o:List HgT,o.Pairwise ltH→(∀g∈o,g∈H)→o.length≤H.length:=fun o h1 h2=>len_sub (h1.imp fun {a b} hab e=>by subst e;exact ltH_irr a hab) h2
 unfold law38_hinges
 refine Ret_loop (Inv:=fun x:List HgT×Int=>0≤x.2∧x.2≤S.length∧x.1.Pairwise ltH∧∀g,g∈x.1↔g∈H∧MH S H x.2 0 0 g) (m:=fun x=>((S.length:Int)-x.2).toNat) ?_ _ _ ⟨by simp,by simp,List.Pairwise.nil,fun g=>?_⟩ (by simp only[fu];omega)
 rotate_left
 ·simp only[List.not_mem_nil,false_iff]
  rintro ⟨_,⟨m,hm,_⟩ | ⟨_,h | ⟨_,q,hq,_⟩⟩⟩
  ·omega
  ·rcases wayH_bd g with e | e<;>omega
  ·omega
 rintro ⟨o,i⟩ rec ⟨i1,i2,i3,i4⟩ ih
 simp only at i1 i2 i3 i4 ⊢
 refine Ret_dec (fun hlt=>?_) fun hge=>?_
 ·refine Ret_loop (Inv:=fun x:List HgT×Int=>0≤x.2∧x.2≤2∧x.1.Pairwise ltH∧∀g,g∈x.1↔g∈H∧MH S H i x.2 0 g) (m:=fun x=>(2-x.2).toNat) ?_ _ _ ⟨by simp,by simp,i3,i4⟩ (by simp only[fu];omega)
  rintro ⟨o1,w⟩ rec1 ⟨w1,w2,w3,w4⟩ ih1
  simp only at w1 w2 w3 w4 ⊢
  refine Ret_dec (fun hw=>?_) fun hw=>?_
  ·refine Ret_loop (Inv:=fun x:List HgT×Int=>0≤x.2∧x.2≤H.length∧x.1.Pairwise ltH∧∀g,g∈x.1↔g∈H∧MH S H i w x.2 g) (m:=fun x=>((H.length:Int)-x.2).toNat) ?_ _ _ ⟨by simp,by simp,w3,w4⟩ (by simp only[fu];omega)
   rintro ⟨o2,k⟩ rec2 ⟨k1,k2,k3,k4⟩ ih2
   simp only at k1 k2 k3 k4 ⊢
   have hc:=cnt o2 k3 fun g hg=>((k4 g).1 hg).1
   refine Ret_dec (fun hk=>?_) fun hk=>?_
   ·have hin:=inb_t (i:=k) (n:=H.length) (by omega) (by omega)
    have hsn:=inb_t (i:=i) (n:=S.length) (by omega) (by omega)
    have hm:=getD_memH (H:=H) (i:=k.toNat) (by omega)
    have skip:¬((H.getD k.toNat hZ).1=S.getD i.toNat (0,0)∧wayH (H.getD k.toNat hZ)=w)→Ret (chk (i64b (k+1)) (rec2 (o2,(k+1)))) (fun o=>o.Pairwise ltH∧∀g,g∈o↔g∈H∧g.1∈S):=fun hne=>by
     refine Ret_chk (i64b_t (by omega) (by omega)) (ih2 _ ⟨by simp only;omega,by simp only;omega,k3,fun g=>(k4 g).trans ?_⟩ (by simp only;omega))
     refine and_congr Iff.rfl (or_congr Iff.rfl (and_congr_right fun h1=>or_congr Iff.rfl (and_congr_right fun h2=>⟨fun⟨q,hq,e⟩=>⟨q,by omega,e⟩,fun⟨q,hq,e⟩=>?_⟩)))
     by_cases c:(q:Int)=k
     ·rw[show q=k.toNat by omega] at e
      exact absurd ⟨by rw[e];exact h1,by rw[e];exact h2⟩ hne
     ·exact⟨q,by omega,e⟩
    refine Ret_chk hin (Ret_chk hsn ?_)
    rw[show(decide ((H.getD k.toNat ((0,0),(false,0))).1.1=(S.getD i.toNat (0,0)).1)&&decide ((H.getD k.toNat ((0,0),(false,0))).1.2=(S.getD i.toNat (0,0)).2))=decide ((H.getD k.toNat hZ).1=S.getD i.toNat (0,0)) from sq_eq _ _]
    refine Ret_dec (fun g1=>?_) fun g1=>skip fun c=>g1 c.1
    refine Ret_chk hin (Ret_bif (fun g2=>?_) fun g2=>skip fun c=>?_)
    ·have hway:wayH (H.getD k.toNat hZ)=w:=by
      have g2:=eq_of_beq g2
      unfold wayH
      change (H.getD k.toNat hZ).2.1=decide (w=1) at g2
      rw[g2]
      rcases(by omega:w=0∨w=1) with rfl | rfl<;>rfl
     refine Ret_chk hin (Ret_chk (lenOk_t (by omega)) (Ret_chk (i64b_t (by omega) (by omega)) (ih2 _ ⟨by simp only;omega,by simp only;omega,?_,fun g=>?_⟩ (by simp only;omega))))
     ·simp only
      rw[List.pairwise_append]
      refine⟨k3,List.pairwise_singleton _ _,fun x hx y hy=>?_⟩
      simp only[List.mem_singleton] at hy
      rw[hy]
      show ltH x (H.getD k.toNat hZ)
      rcases((k4 x).1 hx).2 with⟨m,hm',e⟩ | ⟨e,c | ⟨c,q,hq,eq⟩⟩
      ·exact .inl (by rw[e,g1];exact hS.lt (by omega) (by omega))
      ·exact .inr ⟨e.trans g1.symm,by omega⟩
      ·exfalso
       have:=List.pairwise_iff_getElem.1 hK q k.toNat (by omega) (by omega) (by omega)
       rw[List.getD,List.getElem?_eq_getElem (by omega),Option.getD_some] at eq
       have hk':H.getD k.toNat hZ=H[k.toNat]:=by rw[List.getD,List.getElem?_eq_getElem (by omega)];rfl
       rw[eq,←hk'] at this
       exact this ⟨e.trans g1.symm,wayH_eq.1 (c.trans hway.symm)⟩
     ·simp only
      rw[List.mem_append,k4 g,List.mem_singleton]
      show(g∈H∧MH S H i w k g)∨g=H.getD k.toNat hZ↔_
      constructor
      ·rintro (⟨a,b | ⟨b,c | ⟨c,q,hq,e⟩⟩⟩ | rfl)
       ·exact⟨a,.inl b⟩
       ·exact⟨a,.inr ⟨b,.inl c⟩⟩
       ·exact⟨a,.inr ⟨b,.inr ⟨c,q,by omega,e⟩⟩⟩
       ·exact⟨hm,.inr ⟨g1,.inr ⟨hway,k.toNat,by omega,rfl⟩⟩⟩
      ·rintro ⟨a,b | ⟨b,c | ⟨c,q,hq,e⟩⟩⟩
       ·exact .inl ⟨a,.inl b⟩
       ·exact .inl ⟨a,.inr ⟨b,.inl c⟩⟩
       ·by_cases c':(q:Int)=k
        ·right;rw[←e,show q=k.toNat by omega]
        ·exact .inl ⟨a,.inr ⟨b,.inr ⟨c,q,by omega,e⟩⟩⟩
    ·have e2:=c.2
     have:((H.getD k.toNat hZ).2.1==decide (w=1))=false:=g2
     unfold wayH at e2
     cases hb:(H.getD k.toNat hZ).2.1 with
     | true=>
       rw[hb] at this e2
       rw[if_pos rfl] at e2
       rw[←e2] at this
       cases this
     | false=>
       rw[hb] at this e2
       rw[if_neg (by decide)] at e2
       rw[←e2] at this
       cases this
   ·refine Ret_chk (i64b_t (by omega) (by omega)) (ih1 _ ⟨by simp only;omega,by simp only;omega,k3,fun g=>(k4 g).trans ?_⟩ (by simp only;omega))
    refine and_congr_right fun hg=>or_congr Iff.rfl (and_congr_right fun _=>⟨fun c=>?_,fun c=>?_⟩)
    ·rcases c with c | ⟨c,_⟩
     ·exact .inl (by omega)
     ·exact .inl (by omega)
    ·rcases c with c | ⟨_,q,hq,_⟩
     ·by_cases c':wayH g=w
      ·obtain⟨q,hq,e⟩:=List.mem_iff_getElem.1 hg
       exact .inr ⟨c',q,by omega,by rw[List.getD,List.getElem?_eq_getElem hq];exact e⟩
      ·exact .inl (by omega)
     ·omega
  ·refine Ret_chk (i64b_t (by omega) (by omega)) (ih _ ⟨by simp only;omega,by simp only;omega,w3,fun g=>(w4 g).trans ?_⟩ (by simp only;omega))
   refine and_congr_right fun hg=>⟨fun c=>?_,fun c=>?_⟩
   ·rcases c with⟨m,hm,e⟩ | ⟨e,_⟩
    ·exact .inl ⟨m,by omega,e⟩
    ·exact .inl ⟨i.toNat,by omega,e⟩
   ·rcases c with⟨m,hm,e⟩ | ⟨e,c | ⟨_,q,hq,_⟩⟩
    ·by_cases c':(m:Int)=i
     ·refine .inr ⟨by rw[e,show m=i.toNat by omega],.inl ?_⟩
      rcases wayH_bd g with b | b<;>omega
     ·exact .inl ⟨m,by omega,e⟩
    ·rcases wayH_bd g with b | b<;>omega
    ·omega
 ·refine Ret_some ⟨i3,fun g=>(i4 g).trans (and_congr_right fun hg=>⟨fun c=>?_,fun c=>?_⟩)⟩
  ·rcases c with⟨m,hm,e⟩ | ⟨_,c | ⟨_,q,hq,_⟩⟩
   ·rw[e];exact getD_memS (by omega)
   ·rcases wayH_bd g with b | b<;>omega
   ·omega
  ·obtain⟨m,hm,e⟩:=List.mem_iff_getElem.1 c
   exact .inl ⟨m,by omega,by rw[List.getD,List.getElem?_eq_getElem hm];exact e.symm⟩
def bytes3 (L:List (List Int)):Prop:=∀x∈L,x.length=3∧∀y∈x,0≤y∧y≤255
structure Grown (l:List SqT) (h:List HgT):Prop where
 ge:1≤l.length
 le:l.length≤20
 nd:l.Nodup
 tree:h.length+1=l.length
 sm:∀s∈l,smallS l.length s
 ends:∀g∈h,g.1∈l∧othS g∈l
 bend:∀g∈h, -1≤g.2.2∧g.2.2≤1
 kd:KD h
 con:Connd l h
theorem Grown.start:Grown [(0,0)] []:=⟨by decide,by decide,by simp,rfl,fun s hs=>by simp at hs;subst hs;unfold smallS;simp,fun g hg=>by simp at hg,fun g hg=>by simp at hg,List.Pairwise.nil,Connd.one _⟩
theorem smallS_mono {B B':Int} {s:SqT} (h:smallS B s) (hB:B≤B'):smallS B' s:=by unfold smallS at *;omega
theorem Grown.add {l:List SqT} {h:List HgT} (hg:Grown l h) (hl:l.length<20) {f s:SqT} {g:HgT} (hf:f∈l) (hs:s∉l) (hsm:smallS (l.length+1) s) (hb: -1≤g.2.2∧g.2.2≤1) (he:(g.1=f∧othS g=s)∨(g.1=s∧othS g=f)):Grown (l++[s]) (h++[g]):=by
 refine⟨by simp,by simp;omega,?_,by simp;have:=hg.tree;omega,fun t ht=>?_,fun x hx=>?_,fun x hx=>?_,?_,?_⟩
 ·rw[List.nodup_append]
  exact⟨hg.nd,by simp,fun a ha b hb e=>hs (by simp at hb;rw[←hb,←e];exact ha)⟩
 ·rw[List.length_append,List.length_singleton]
  rcases List.mem_append.1 ht with c | c
  ·exact smallS_mono (hg.sm t c) (by omega)
  ·simp at c;rw[c];exact smallS_mono hsm (by omega)
 ·rcases List.mem_append.1 hx with c | c
  ·exact⟨List.mem_append_left _ (hg.ends x c).1,List.mem_append_left _ (hg.ends x c).2⟩
  ·simp at c
   rw[c]
   rcases he with⟨a,b⟩ | ⟨a,b⟩
   ·rw[a,b];exact⟨List.mem_append_left _ hf,by simp⟩
   ·rw[a,b];exact⟨by simp,List.mem_append_left _ hf⟩
 ·rcases List.mem_append.1 hx with c | c
  ·exact hg.bend x c
  ·simp at c;rw[c];exact hb
 ·unfold KD
  rw[List.pairwise_append]
  refine⟨hg.kd,List.pairwise_singleton _ _,fun x hx y hy ⟨e1,e2⟩=>?_⟩
  simp at hy
  rw[hy] at e1 e2
  have eo:othS x=othS g:=by unfold othS;rw[e1,e2]
  have:=hg.ends x hx
  rcases he with⟨a,b⟩ | ⟨a,b⟩
  ·rw[eo,b] at this;exact hs this.2
  ·rw[e1,a] at this;exact hs this.1
 ·refine hg.con.cons (s:=s) (g:=g) ?_
  rcases he with⟨a,b⟩ | ⟨a,b⟩
  ·exact .inr ⟨b,by rw[a];exact hf⟩
  ·exact .inl ⟨a,by rw[b];exact hf⟩
theorem Grown.net {l o:List SqT} {h q:List HgT} (hg:Grown l h) (ho:Sorted o) (hp:o.Perm l) (hq:q.Pairwise ltH) (hm:∀g,g∈q↔g∈h∧g.1∈o):NetOK o q∧q.length+1=o.length∧∀g,g∈q↔g∈h:=by
 have hl:=hp.length_eq
 have h1:=hg.ge;have h2:=hg.le;have h3:=hg.tree
 have mm:∀g,g∈q↔g∈h:=fun g=>(hm g).trans ⟨fun c=>c.1,fun c=>⟨c,hp.mem_iff.2 (hg.ends g c).1⟩⟩
 have nq:q.Nodup:=hq.imp fun {a b} hab e=>by subst e;exact ltH_irr a hab
 have nh:h.Nodup:=hg.kd.imp fun {a b} hab e=>hab (by rw[e];exact⟨rfl,rfl⟩)
 have l1:=len_sub nq fun x hx=>(mm x).1 hx
 have l2:=len_sub nh fun x hx=>(mm x).2 hx
 refine⟨⟨by omega,by omega,ho,fun s hs=>?_,hq,fun x hx=>hg.bend x ((mm x).1 hx),fun x hx=>?_,hg.con.more (fun s=>hp.mem_iff.symm) fun x hx=>(mm x).2 hx⟩,by omega,mm⟩
 ·have:=hg.sm s (hp.mem_iff.1 hs)
  unfold smallS at this
  omega
 ·have:=hg.ends x ((mm x).1 hx)
  exact⟨hp.mem_iff.2 this.1,hp.mem_iff.2 this.2⟩
end X
end Go.Vm
namespace Go.Vm
namespace X
open W
variable {nn:Nat}
theorem wrap_i8 {b:Int} (h: -1≤b∧b≤2):IntKind.i8.wrap b=b:=by
 rcases(by omega:b= -1∨b=0∨b=1∨b=2) with rfl | rfl | rfl | rfl<;>decide
def stepH (f:SqT) (d b:Int):HgT:=(if 1<d then besS f d else f,(decide (d%2=1),b))
theorem stepH_ends {f:SqT} {d b:Int} (h:0≤d∧d<4):((stepH f d b).1=f∧othS (stepH f d b)=besS f d)∨((stepH f d b).1=besS f d∧othS (stepH f d b)=f):=by
 obtain⟨x,y⟩:=f
 rcases(by omega:d=0∨d=1∨d=2∨d=3) with rfl | rfl | rfl | rfl
 ·exact .inl ⟨rfl,rfl⟩
 ·exact .inl ⟨rfl,rfl⟩
 ·refine .inr ⟨rfl,?_⟩
  show((x-1+1,y):SqT)=(x,y)
  rw[show x-1+1=x by omega]
 ·refine .inr ⟨rfl,?_⟩
  show((x,y-1+1):SqT)=(x,y)
  rw[show y-1+1=y by omega]
theorem getD_mem3 {L:List Int} {k:Nat} (hl:L.length=3) (hk:k<3):L.getD k 0∈L:=getD_mem (by omega)
theorem Tree_ok {a:List (List Int)} {c b:Int} (hb:bytes3 a) (hn:a.length≤nn) (hbig:a.length≤140737488355328):Ret (law38_N_Tree (fu nn) (a,(c,b))) fun n=>NetOK n.1 n.2∧n.2.length+1=n.1.length∧n.1.length≤20∧∀s∈n.1,smallS 20 s:=by
 unfold law38_N_Tree
 refine Ret_loop (Inv:=fun x:List SqT×(List HgT×Int)=>0≤x.2.2∧x.2.2≤a.length∧Grown x.1 x.2.1) (m:=fun x=>((a.length:Int)-x.2.2).toNat) ?_ _ _ ⟨by simp,by simp,Grown.start⟩ (by simp only[fu];omega)
 rintro ⟨l,h,i⟩ rec ⟨i1,i2,hg⟩ ih
 simp only at i1 i2 hg ⊢
 have g1:=hg.ge;have g2:=hg.le;have g3:=hg.tree
 have fin:Ret ((law38_sorted (fu nn) l).bind fun r4=>(law38_sorted (fu nn) l).bind fun r5=>(law38_hinges (fu nn) (r5,h)).bind fun r6=>some (r4,r6)) (fun n=>NetOK n.1 n.2∧n.2.length+1=n.1.length∧n.1.length≤20∧∀s∈n.1,smallS 20 s):=by
  obtain⟨o,e,o1,o2⟩:=sorted_ok (nn:=nn) hg.nd (by omega)
  rw[e,Option.bind_some,Option.bind_some]
  have hol:=o2.length_eq
  refine Ret_bind (hinges_ok o1 hg.kd (by omega) (by omega)) fun q ⟨q1,q2⟩=>Ret_some ?_
  obtain⟨n1,n2,_⟩:=hg.net o1 o2 q1 q2
  exact⟨n1,n2,by simp only;omega,fun s hs=>smallS_mono (hg.sm s (o2.subset hs)) (by omega)⟩
 refine Ret_dec (fun hlt=>Ret_dec (fun h20=>?_) fun _=>fin) fun _=>fin
 have hst:a.getD i.toNat (List.replicate 3 0)∈a:=by rw[List.getD,List.getElem?_eq_getElem (by omega)];exact List.getElem_mem _
 obtain⟨s1,s2⟩:=hb _ hst
 generalize a.getD i.toNat (List.replicate 3 0)=st at *
 have v0:=s2 _ (getD_mem3 s1 (show 0<3 by omega))
 have v1:=s2 _ (getD_mem3 s1 (show 1<3 by omega))
 have v2:=s2 _ (getD_mem3 s1 (show 2<3 by omega))
 have hin:=inb_t (i:=i) (n:=a.length) (by omega) (by omega)
 have m0:=Int.emod_nonneg (st.getD 0 0) (show((l.length:Nat):Int)≠0 by omega)
 have m1:=Int.emod_lt_of_pos (st.getD 0 0) (show(0:Int)< ((l.length:Nat):Int) by omega)
 have hfm:l.getD (st.getD 0 0% ((l.length:Nat):Int)).toNat (0,0)∈l:=getD_memS (by omega)
 have ei:=inb_t (i:=st.getD 0 0% ((l.length:Nat):Int)) (n:=l.length) m0 m1
 generalize l.getD (st.getD 0 0% ((l.length:Nat):Int)).toNat (0,0)=f at *
 have hd:0≤st.getD 1 0%4∧st.getD 1 0%4<4:=by omega
 generalize hdd:st.getD 1 0%4=d at *
 have hfs:=hg.sm f hfm
 refine Ret_chk hin (Ret_chk (i64b_t (by omega) (by omega)) (Ret_chk (by simp only[Bool.and_eq_true,decide_eq_true_eq];omega) (Ret_chk ei (Ret_chk hin (Ret_chk (i64b_t (by omega) (by omega)) (Ret_chk (by simp only[Bool.and_eq_true,decide_eq_true_eq];omega) ?_))))))
 rw[show law38_beside (fu nn) ((f.1,f.2),d)=some (besS f d) from beside_ok hfs (by omega),Option.bind_some,show law38_has (fu nn) (l,((besS f d).1,(besS f d).2))=some (decide (besS f d∈l)) from has_ok (by omega) _,Option.bind_some]
 refine Ret_dec (fun hm=>Ret_chk (i64b_t (by omega) (by omega)) (ih _ ⟨by simp only;omega,by simp only;omega,hg⟩ (by simp only;omega))) fun hm=>?_
 have hw:IntKind.i8.wrap ((IntKind.i8.wrap (st.getD 2 0%3))-1)=st.getD 2 0%3-1:=by
  rw[wrap_i8 (b:=st.getD 2 0%3) (by omega),wrap_i8 (by omega)]
 rw[hw]
 have grow:=hg.add (f:=f) (s:=besS f d) (g:=stepH f d (st.getD 2 0%3-1)) (by omega) hfm hm (besS_small hfs) (by show -1≤st.getD 2 0%3-1∧st.getD 2 0%3-1≤1;omega) (stepH_ends hd)
 refine Ret_chk (lenOk_t (by omega)) (Ret_chk (by simp only[Bool.and_eq_true,decide_eq_true_eq];omega) (Ret_chk hin (Ret_chk (by simp only[Bool.and_eq_true,decide_eq_true_eq];omega) ?_)))
 refine Ret_dec (fun hd1=>?_) fun hd1=>?_
 ·refine Ret_chk (lenOk_t (by omega)) (Ret_chk (i64b_t (by omega) (by omega)) (ih _ ⟨by simp only;omega,by simp only;omega,?_⟩ (by simp only;omega)))
  have e:stepH f d (st.getD 2 0%3-1)=(besS f d,(decide (d%2=1),st.getD 2 0%3-1)):=by unfold stepH;rw[if_pos hd1]
  rw[e] at grow
  exact grow
 ·refine Ret_chk (lenOk_t (by omega)) (Ret_chk (i64b_t (by omega) (by omega)) (ih _ ⟨by simp only;omega,by simp only;omega,?_⟩ (by simp only;omega)))
  have e:stepH f d (st.getD 2 0%3-1)=(f,(decide (d%2=1),st.getD 2 0%3-1)):=by unfold stepH;rw[if_neg hd1]
  rw[e] at grow
  exact grow
end X
end Go.Vm
namespace Go.Vm
namespace X
open W
variable {nn:Nat}
theorem KD_of {H:List HgT} (h:H.Pairwise ltH):H.Pairwise fun a b=>¬(a.1=b.1∧a.2.1=b.2.1):=h.imp fun {a b} hab ⟨e1,e2⟩=>by
 rcases hab with h | ⟨_,h⟩
 ·rw[e1] at h;exact ltS_irr _ h
 ·rw[wayH_eq.2 e2] at h;omega
theorem ltH_nodup {H:List HgT} (h:H.Pairwise ltH):H.Nodup:=h.imp fun {a b} hab e=>by subst e;exact ltH_irr a hab
theorem Of_ok {a:List (List Int)} {c b:Int} {n:List SqT×List HgT} (en:law38_N_Tree (fu nn) (a,(c,b))=some n) (h:NetOK n.1 n.2) (ht:n.2.length+1=n.1.length) (h20:n.1.length≤20)
  (hc:0≤c∧c≤18446744073709551615) (hb:0≤b∧b≤18446744073709551615):
  ∃q,law38_N_Of (fu nn) (a,(c,b))=some (n.1,q)∧NetOK n.1 q∧(∀g∈n.2,g∈q)∧q.length≤100:=by
 have hge:=h.ge
 have inv:=ofL_inv (S:=n.1) (H:=n.2) c hb.1 h.srt.nodup (KD_of h.hs)
 have len:=inv.len
 rw[prs_len] at len
 obtain⟨X,eX,hX⟩:=inv.pre
 have kd:=inv.kd
 have eL:(ofAll n.1 n.2 c b (prs n.1)).1=ofL n.1 n.2 c b:=rfl
 rw[eL] at eX kd len
 generalize hL:ofL n.1 n.2 c b=L at *
 obtain⟨q,eq,q1,q2⟩:=hinges_ok (nn:=nn) h.srt kd (by omega) (by omega)
 have sub:∀g∈n.2,g∈q:=fun g hg=>(q2 g).2 ⟨by rw[eX];exact List.mem_append_left _ hg,(h.ends g hg).1⟩
 have mem:∀g∈q,(-1≤g.2.2∧g.2.2≤1)∧g.1∈n.1∧othS g∈n.1:=fun g hg=>by
  obtain⟨g1,g2⟩:=(q2 g).1 hg
  rw[eX] at g1
  rcases List.mem_append.1 g1 with g1 | g1
  ·exact⟨h.bend g g1,h.ends g g1⟩
  ·obtain⟨_,x2,_,x4⟩:=hX g g1
   exact⟨x4,g2,x2⟩
 have okt:okT n.1 n.2=true:=by
  unfold okT
  simp only[Bool.and_eq_true,List.all_eq_true,decide_eq_true_eq,Nat.ble_eq]
  exact⟨⟨by omega,by omega⟩,fun s hs=>by have:=h.bd s hs;omega⟩
 refine⟨q,?_,⟨h.le,h.ge,h.srt,h.bd,q1,fun g hg=>(mem g hg).1,fun g hg=>(mem g hg).2,h.con.more (fun s=>Iff.rfl) sub⟩,sub,?_⟩
 ·have e1:(okT n.1 n.2&& !(List.length (α:=SqT) n.1).beq 0&&decide (0≤c∧c≤18446744073709551615)&&decide (0≤b∧b≤18446744073709551615))=true:=by
   rw[okt,decide_eq_true hc,decide_eq_true hb]
   simp only[Bool.true_and,Bool.and_true,Bool.not_eq_true',beq_dec,decide_eq_false_iff_not]
   omega
  unfold law38_N_Of ofR
  rw[en,Option.bind_some]
  erw[e1,cond_true]
  rw[hL,eq]
  rfl
 ·have:=len_sub (ltH_nodup q1) (p:=L) fun g hg=>((q2 g).1 hg).1
  omega
theorem index_law {S:List SqT} {H:List HgT} (hl:S.length≤10000) {s:SqT} (hs:s∈S):law38_index (fu nn) ((S,H),s)=some (idxS S s):=by
 apply Ret.eq
 unfold law38_index
 simp only
 obtain⟨x1,x2,x3⟩:=at_idxS hs
 refine Ret_loop (Inv:=fun i:Int=>0≤i∧i≤idxS S s) (m:=fun i=>((S.length:Int)-i).toNat) ?_ _ _ ⟨by simp,x1⟩ (by simp only[fu];omega)
 rintro i rec ⟨i1,i2⟩ ih
 refine Ret_dec (fun hlt=>?_) fun hge=>by omega
 rw[show(decide ((S.getD i.toNat (0,0)).1=s.1)&&decide ((S.getD i.toNat (0,0)).2=s.2))=decide (S.getD i.toNat (0,0)=s) from sq_eq _ _]
 have first:∀k:Nat,(k:Int)<idxS S s→S.getD k (0,0)≠s:=fun k hk e=>by
  unfold idxS at hk x1 x2
  rw[if_pos hs] at hk
  have hk':k<S.idxOf s:=by omega
  have hlen:S.idxOf s<S.length:=List.idxOf_lt_length_of_mem hs
  have:=List.not_of_lt_findIdx (p:=(·==s)) (xs:=S) (i:=k) (by simpa[List.idxOf] using hk')
  rw[List.getD,List.getElem?_eq_getElem (by omega)] at e
  simp only[Option.getD_some] at e
  rw[e] at this
  simp at this
 refine Ret_chk (inb_t (by omega) (by omega)) (Ret_dec (fun g=>Ret_some ?_) fun g=>?_)
 ·by_cases c:i=idxS S s
  ·exact c
  ·exact absurd g (first i.toNat (by omega))
 ·have hne:i≠idxS S s:=fun c=>g (by rw[c];exact x3)
  exact Ret_chk (i64b_t (by omega) (by omega)) (ih _ ⟨by omega,by omega⟩ (by omega))
end X
end Go.Vm
namespace Go.Vm
namespace X
open W
variable {nn:Nat}
theorem besU_eq (g:HgT):(if g.2.1=true then besS g.1 1 else besS g.1 0)=othS g:=by
 obtain⟨⟨x,y⟩,u,b⟩:=g
 cases u<;>rfl
end X
end Go.Vm
namespace Go.Vm
namespace X
open W
theorem lives38:law38_lives fuel ()=some true:=by kernel_rfl
end X
end Go.Vm
