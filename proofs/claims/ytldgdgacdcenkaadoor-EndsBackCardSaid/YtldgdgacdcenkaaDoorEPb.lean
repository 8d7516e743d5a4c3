/-
  Ends: plain laws: the pile put together backwards.
  Ends: plain laws: a step undone.
  Ends: plain laws: what is put together backwards is an order of the segments.
  Ends: plain laws: Pile.
  Ends: lists in which one element is replaced by some.
  Ends: the law EndsBack: lists.
  Ends: the law EndsBack.
-/
import Derived.Test.YtldgdgacdcenkaaDoorEP
set_option linter.unusedSimpArgs false
set_option linter.unusedVariables false
set_option linter.unusedSectionVars false
set_option linter.unnecessarySimpa false
namespace Go.Vm
namespace X
open W
def cntL (p:List Int) (k d:Int):List Int:=p.map fun x=>if k≤x then x+d else x
def abv (s:Sp) (c:Nat):Bool:=decide (s.2.getD c 0=2)==decide (c%2=0)
theorem counted_ok {p:List Int} {k d:Int} (hp:∀x∈p,0≤x∧x≤1000) (hl:p.length≤1000) (hd:0≤d∧d≤2):ends_counted fuel (p,(k,d))=some (cntL p k d):=by
 apply Ret.eq
 unfold ends_counted
 refine Ret_bind (Ret.of (clone_int (a:=p) (by omega))) fun r hr=>?_
 rw[show r=p from hr]
 refine Ret_loop (Inv:=fun x:Int×(List Int×Option Nat)=>0≤x.1∧x.1≤p.length∧x.2.1.length=p.length∧∀j:Nat,j<p.length→x.2.1.getD j 0=if(j:Int)<x.1 then(if k≤p.getD j 0 then p.getD j 0+d else p.getD j 0) else p.getD j 0) (m:=fun x=>((p.length:Int)-x.1).toNat) ?_ _ _ ⟨by simp,by simp,rfl,fun j hj=>by rw[if_neg (by simp only;omega)]⟩ (by simp only[fuel];omega)
 rintro ⟨i,l,o⟩ rec ⟨i1,i2,i3,i4⟩ ih
 simp only at i1 i2 i3 i4 ⊢
 refine Ret_dec (fun hlt=>?_) fun hge=>Ret_some ?_
 ·have hi:=i4 i.toNat (by omega)
  rw[if_neg (by omega)] at hi
  have hb:=hp _ (getD_mem (L:=p) (i:=i.toNat) (by omega))
  rw[hi]
  refine Ret_chk (inb_t (by omega) (by omega)) (Ret_dec (fun hk=>?_) fun hk=>?_)
  ·refine Ret_chk (i64b_t (by omega) (by omega)) (Ret_chk (inb_t (by omega) (by omega)) (Ret_chk (i64b_t (by omega) (by omega)) (ih _ ⟨by simp only;omega,by simp only;omega,by simp only[List.length_set];exact i3,fun j hj=>?_⟩ (by simp only;omega))))
   simp only
   rw[getD_set (by omega)]
   by_cases hji:j=i.toNat
   ·rw[if_pos hji,if_pos (show(j:Int)<i+1 by omega),hji,if_pos hk]
   ·rw[if_neg hji,i4 j hj]
    by_cases hj2:(j:Int)<i
    ·rw[if_pos hj2,if_pos (show(j:Int)<i+1 by omega)]
    ·rw[if_neg hj2,if_neg (show ¬(j:Int)<i+1 by omega)]
  ·refine Ret_chk (i64b_t (by omega) (by omega)) (ih _ ⟨by simp only;omega,by simp only;omega,i3,fun j hj=>?_⟩ (by simp only;omega))
   simp only
   by_cases hji:j=i.toNat
   ·rw[hji,hi,if_pos (show((i.toNat:Nat):Int)<i+1 by omega),if_neg hk]
   ·rw[i4 j hj]
    by_cases hj2:(j:Int)<i
    ·rw[if_pos hj2,if_pos (show(j:Int)<i+1 by omega)]
    ·rw[if_neg hj2,if_neg (show ¬(j:Int)<i+1 by omega)]
 ·refine ext_getD (by simp[cntL,i3]) fun j hj=>?_
  rw[i4 j (by omega),if_pos (show(j:Int)<i by omega)]
  have hj':j<p.length:=by omega
  have e1:p.getD j 0=p[j]:=by simp[List.getD,List.getElem?_eq_getElem hj']
  have e2:(cntL p k d).getD j 0=if k≤p[j] then p[j] +d else p[j]:=by simp[cntL,List.getD,List.getElem?_eq_getElem hj']
  rw[e1,e2]
theorem above_ok {s:Sp} {c:Int} (h0:0≤c) (h1:c<s.2.length):ends_above fuel (s,c)=some (abv s c.toNat):=by
 unfold ends_above
 dsimp only
 rw[chk_t (inb_t h0 h1),chk_t (by rw[Bool.and_eq_true];exact⟨decide_eq_true h0,rfl⟩)]
 unfold abv
 congr 2
 apply decide_eq_decide.2
 omega
theorem index_ok {p:List Int} {v:Int} (hm:v∈p) (hl:p.length≤1000):slices_Index_int fuel (p,v)=some ((p.idxOf v:Nat):Int):=by
 apply Ret.eq
 unfold slices_Index_int
 dsimp only
 have hlt:=List.idxOf_lt_length_iff.2 hm
 refine Ret_loop (Inv:=fun x:Int=>0≤x∧x≤(p.idxOf v:Nat)) (m:=fun x=>(((p.idxOf v:Nat):Int)-x).toNat) ?_ _ _ ⟨by omega,by omega⟩ (by simp only[fuel];omega)
 intro x rec ⟨i1,i2⟩ ih
 obtain⟨x,rfl⟩:=Int.eq_ofNat_of_zero_le i1
 rw[Int.toNat_natCast]
 refine Ret_dec (fun _=>Ret_chk (inb_t (by omega) (by omega)) (Ret_dec (fun he=>Ret_some ?_) fun he=>?_)) fun h=>absurd (by omega) h
 ·have h1:p.getD x 0=p[x]'(by omega):=by rw[List.getD,List.getElem?_eq_getElem (by omega)];rfl
  by_cases hx:x=p.idxOf v
  ·rw[hx]
  ·have hlt2:x<p.idxOf v:=by omega
   have:=List.not_of_lt_findIdx (p:=(·==v)) (xs:=p) (i:=x) hlt2
   simp at this
   exact absurd (h1.symm.trans he.symm) this
 ·have hx:x≠p.idxOf v:=fun hx=>he (by
   rw[hx,List.getD,List.getElem?_eq_getElem hlt]
   exact(List.getElem_idxOf hlt).symm)
  exact Ret_chk (i64b_t (by omega) (by omega)) (ih _ ⟨by omega,by omega⟩ (by omega))
theorem rev_go {r:List Int} {o:Option Nat} {β:Type} {Q:β→Prop} {K:List Int×Option Nat→Option β} (hr:r.length≤10000) (hK:∀o,Ret (K (r.reverse,o)) Q):
  Ret (loopF (fun(rec2:Int×(Int×((List Int)×Option Nat))→Option β) (x2:(Int×(Int×((List Int)×Option Nat))))=>bif(decide (x2.1<x2.2.1)) then(chk (inb x2.2.1 x2.2.2.1.length) (chk (inb x2.1 x2.2.2.1.length) (chk (inb x2.1 x2.2.2.1.length) (chk (inb x2.2.1 (x2.2.2.1.set x2.1.toNat (x2.2.2.1.getD x2.2.1.toNat 0)).length) (chk (i64b (x2.1+1)) (chk (i64b (x2.2.1-1)) (rec2 ((x2.1+1),((x2.2.1-1),(((x2.2.2.1.set x2.1.toNat (x2.2.2.1.getD x2.2.1.toNat 0)).set x2.2.1.toNat (x2.2.2.1.getD x2.1.toNat 0)),x2.2.2.2)))))))))) else K (x2.2.2.1,x2.2.2.2)) fuel (0,((((r.length:Nat):Int)-1),(r,o)))) Q:=by
 refine Ret_loop (Inv:=fun x:Int×(Int×((List Int)×Option Nat))=>0≤x.1∧x.2.1=(r.length:Int)-1-x.1∧2*x.1≤r.length+1∧x.2.2.1.length=r.length∧∀k:Nat,k<r.length→x.2.2.1.getD k 0=if(k:Int)<x.1∨x.2.1< (k:Int) then r.getD (r.length-1-k) 0 else r.getD k 0) (m:=fun x=>(x.2.1-x.1+1).toNat) ?_ _ _ ⟨by simp,by simp,by simp only;omega,rfl,fun k hk=>?_⟩ (by simp only[fuel];omega)
 ·rintro ⟨i,j,l,c⟩ rec ⟨i1,i2,i3,i4,i5⟩ ih
  simp only at i1 i2 i3 i4 i5 ⊢
  refine Ret_dec (fun hlt=>?_) fun hge=>?_
  ·refine Ret_chk (inb_t (by omega) (by omega)) (Ret_chk (inb_t (by omega) (by omega)) (Ret_chk (inb_t (by omega) (by omega)) (Ret_chk (inb_t (by omega) (by rw[List.length_set];omega)) (Ret_chk (i64b_t (by omega) (by omega)) (Ret_chk (i64b_t (by omega) (by omega)) (ih _ ⟨by simp only;omega,by simp only;omega,by simp only;omega,by simp only[List.length_set];exact i4,fun k hk=>?_⟩ (by simp only;omega)))))))
   simp only
   rw[getD_set (by rw[List.length_set];omega),getD_set (by omega)]
   have e1:=i5 i.toNat (by omega)
   have e2:=i5 j.toNat (by omega)
   rw[if_neg (by omega)] at e1 e2
   by_cases h1:k=j.toNat
   ·rw[if_pos h1,e1,if_pos (by omega)]
    congr 1;omega
   ·rw[if_neg h1]
    by_cases h2:k=i.toNat
    ·rw[if_pos h2,e2,if_pos (by omega)]
     congr 1;omega
    ·rw[if_neg h2,i5 k hk]
     by_cases h3:(k:Int)<i∨j< (k:Int)
     ·rw[if_pos h3,if_pos (by omega)]
     ·rw[if_neg h3,if_neg (by omega)]
  ·have hle:l=r.reverse:=by
    refine ext_getD (by simp[i4]) fun k hk=>?_
    rw[i5 k (by omega),getD_reverse (by omega)]
    by_cases h3:(k:Int)<i∨j< (k:Int)
    ·rw[if_pos h3]
    ·rw[if_neg h3]
     congr 1;omega
   subst hle
   exact hK c
 ·simp only
  rw[if_neg (by omega)]
end X
end Go.Vm
namespace Go.Vm
namespace X
open W
def OrdP (n:Nat) (p:List Int):Prop:=p.Perm (idL n)
theorem OrdP.len {n:Nat} {p:List Int} (h:OrdP n p):p.length=n:=by rw[List.Perm.length_eq h,idL_len]
theorem OrdP.in {n:Nat} {p:List Int} (h:OrdP n p):∀x∈p,0≤x∧x<n:=fun x hx=>mem_idL.1 ((List.Perm.mem_iff h).1 hx)
theorem OrdP.mem {n:Nat} {p:List Int} (h:OrdP n p) {x:Int} (h0:0≤x) (h1:x<n):x∈p:=(List.Perm.mem_iff h).2 (mem_idL.2 ⟨h0,h1⟩)
def undoL (s:Sp) (x:Int×Int) (p:List Int):List Int:=
 if x.1=1 then insL (cntL p 0 1).reverse ((cntL p 0 1).reverse.idxOf 1+if abv s 0 then 0 else 1) ((cntL p 0 1).reverse.idxOf 1+if abv s 0 then 0 else 1) [0]
 else if x.1=2 then insL p (p.idxOf ((s.2.length:Int)-1)+if abv s (s.2.length-1) then 1 else 0) (p.idxOf ((s.2.length:Int)-1)+if abv s (s.2.length-1) then 1 else 0) [(s.2.length:Int)]
 else insL (cntL p x.2 2) (p.idxOf (x.2-1)) (p.idxOf (x.2-1)+1) (if abv s (x.2.toNat-1) then [x.2-1,x.2,x.2+1] else [x.2+1,x.2,x.2-1])
theorem insR_ok {L V:List Int} {i k:Nat} (h1:1≤L.length) (h2:L.length≤1000) (v1:1≤V.length) (v2:V.length≤1000) (hi:i≤k) (hk:k≤L.length) (hik:i=k∨k<i+V.length):insR (L,((i:Int),((k:Int),V)))=some (insL L i k V):=by
 unfold insR
 have e:(decide ((0:Int)≤(i:Int))&&decide ((i:Int)≤(k:Int))&&inb (k:Int) (L.length+1)&&(1:Nat).ble L.length&&L.length.ble 1000000&&(1:Nat).ble V.length&&V.length.ble 1000&&(decide ((i:Int)=(k:Int))||decide ((k:Int)< (i:Int)+V.length)))=true:=by
  rw[inb_t (by omega) (by omega)]
  simp only[Bool.and_eq_true,Bool.or_eq_true,decide_eq_true_eq,Nat.ble_eq]
  refine⟨⟨⟨⟨⟨⟨⟨by omega,by omega⟩,trivial⟩,h1⟩,by omega⟩,v1⟩,v2⟩,by omega⟩
 simp only
 rw[e];simp
theorem ins_ok {L V:List Int} {i:Int} (h1:1≤L.length) (h2:L.length≤1000) (v1:1≤V.length) (v2:V.length≤1000) (h0:0≤i) (hi:i≤L.length):slices_Insert_int fuel (L,(i,V))=some (insL L i.toNat i.toNat V):=by
 obtain⟨i,rfl⟩:=Int.eq_ofNat_of_zero_le h0
 have hi:i≤L.length:=by omega
 exact insR_ok h1 h2 v1 v2 (Nat.le_refl _) hi (.inl rfl)
theorem undo_left {s:Sp} (hs:Good s) (hk:0<s.2.length) {at_:Int} {p:List Int} (hp:OrdP s.2.length p):ends_undo fuel (s,((1,at_),p))=some (undoL s (1,at_) p):=by
 have hl:=hs.len
 have pl:=hp.len
 have pin:=hp.in
 have cl:(cntL p 0 1).length=s.2.length:=by simp[cntL,pl]
 apply Ret.eq
 unfold ends_undo
 dsimp only
 rw[decide_eq_true rfl,cond_true]
 refine Ret_bind (Ret.of (counted_ok (p:=p) (k:=0) (d:=1) (fun x hx=>by have:=pin x hx;omega) (by omega) (by omega))) fun r hr=>?_
 rw[show r=cntL p 0 1 from hr]
 refine Ret_chk (i64b_t (by omega) (by omega)) ?_
 refine rev_go (o:=none) (K:=fun l=>(slices_Index_int fuel (l.1,1)).bind fun r3=>(ends_above fuel ((s.1,s.2),0)).bind fun r4=>bif(!r4) then(chk (i64b (r3+1)) ((slices_Insert_int fuel (l.1,((r3+1),[0]))).bind fun r5=>some r5)) else((slices_Insert_int fuel (l.1,(r3,[0]))).bind fun r6=>some r6)) (by omega) fun o=>?_
 have m1:(1:Int)∈(cntL p 0 1).reverse:=by
  rw[List.mem_reverse]
  exact List.mem_map.2 ⟨0,hp.mem (by omega) (by omega),by simp⟩
 have il:=List.idxOf_lt_length_iff.2 m1
 have rl:(cntL p 0 1).reverse.length=s.2.length:=by rw[List.length_reverse,cl]
 dsimp only
 refine Ret_bind (Ret.of (index_ok m1 (by omega))) fun r3 hr3=>?_
 subst hr3
 refine Ret_bind (Ret.of (above_ok (s:=(s.1,s.2)) (c:=0) (by omega) (by simp only;omega))) fun r4 hr4=>?_
 have hr4:r4=abv s 0:=hr4
 subst hr4
 cases hb:abv s 0 with
 | true=>
   refine Ret_bif (fun h=>by simp at h) fun _=>Ret_bind (Ret.of (ins_ok (by omega) (by omega) (by simp) (by simp) (by omega) (by omega))) fun r hr=>Ret_some ?_
   rw[hr,Int.toNat_natCast]
   simp[undoL,hb]
 | false=>
   refine Ret_bif (fun _=>Ret_chk (i64b_t (by omega) (by omega)) (Ret_bind (Ret.of (ins_ok (by omega) (by omega) (by simp) (by simp) (by omega) (by omega))) fun r hr=>Ret_some ?_)) fun h=>by simp at h
   rw[hr]
   rw[show((((cntL p 0 1).reverse.idxOf 1:Nat):Int)+1).toNat=(cntL p 0 1).reverse.idxOf 1+1 by omega]
   simp[undoL,hb]
theorem undo_right {s:Sp} (hs:Good s) (hk:0<s.2.length) {at_:Int} {p:List Int} (hp:OrdP s.2.length p):ends_undo fuel (s,((2,at_),p))=some (undoL s (2,at_) p):=by
 have hl:=hs.len
 have pl:=hp.len
 apply Ret.eq
 unfold ends_undo
 dsimp only
 rw[decide_eq_false (by omega),cond_false,decide_eq_true rfl,cond_true]
 have m1:((s.2.length:Int)-1)∈p:=hp.mem (by omega) (by omega)
 have il:=List.idxOf_lt_length_iff.2 m1
 refine Ret_chk (i64b_t (by omega) (by omega)) (Ret_bind (Ret.of (index_ok m1 (by omega))) fun r3 hr3=>?_)
 subst hr3
 refine Ret_chk (i64b_t (by omega) (by omega)) (Ret_bind (Ret.of (above_ok (s:=(s.1,s.2)) (c:=(s.2.length:Int)-1) (by omega) (by simp only;omega))) fun r4 hr4=>?_)
 have hr4:r4=abv s (s.2.length-1):=by rw[hr4];show abv s _=_;congr 1;omega
 subst hr4
 refine Ret_jn (fun i=>i=((p.idxOf ((s.2.length:Int)-1)+if abv s (s.2.length-1) then 1 else 0:Nat):Int)) (fun i hi=>?_) (fun j hj=>?_)
 ·refine Ret_bind (Ret.of (clone_int (a:=p) (by omega))) fun r hr=>?_
  rw[show r=p from hr]
  have hi2:0≤i∧i≤p.length:=by rw[hi];split<;>omega
  refine Ret_bind (Ret.of (ins_ok (by omega) (by omega) (by simp) (by simp) hi2.1 hi2.2)) fun r hr=>Ret_some ?_
  rw[hr,hi,Int.toNat_natCast]
  simp[undoL]
 ·cases hb:abv s (s.2.length-1) with
  | true=>exact Ret_bif (fun _=>Ret_chk (i64b_t (by omega) (by omega)) (hj _ (by simp[hb]))) fun h=>by simp at h
  | false=>exact Ret_bif (fun h=>by simp at h) fun _=>hj _ (by simp[hb])
theorem rep_ok {L V:List Int} {i k:Int} (h1:1≤L.length) (h2:L.length≤1000) (v1:1≤V.length) (v2:V.length≤1000) (h0:0≤i) (hi:i<k) (hk:k≤L.length) (hv:k<i+V.length):slices_Replace_int fuel (L,(i,(k,V)))=some (insL L i.toNat k.toNat V):=by
 obtain⟨i,rfl⟩:=Int.eq_ofNat_of_zero_le h0
 obtain⟨k,rfl⟩:=Int.eq_ofNat_of_zero_le (show 0≤k by omega)
 unfold slices_Replace_int
 dsimp only
 rw[decide_eq_false (by omega),cond_false,insR_ok h1 h2 v1 v2 (by omega) (by omega) (.inr (by omega))]
 simp
theorem undo_crimp {s:Sp} (hs:Good s) {c:Nat} (hc:c+1<s.2.length) {k:Int} (k1:k≠1) (k2:k≠2) {p:List Int} (hp:OrdP (s.1.length-2) p):ends_undo fuel (s,((k,(c:Int)+1),p))=some (undoL s (k,(c:Int)+1) p):=by
 have hl:=hs.len
 have pl:=hp.len
 have pin:=hp.in
 have cl:(cntL p ((c:Int)+1) 2).length=p.length:=by simp[cntL]
 apply Ret.eq
 unfold ends_undo
 dsimp only
 rw[decide_eq_false k1,cond_false,decide_eq_false k2,cond_false]
 have e1:(c:Int)+1-1=c:=by omega
 rw[e1]
 have m1:(c:Int)∈p:=hp.mem (by omega) (by omega)
 have il:=List.idxOf_lt_length_iff.2 m1
 refine Ret_chk (i64b_t (by omega) (by omega)) (Ret_bind (Ret.of (index_ok m1 (by omega))) fun r3 hr3=>?_)
 subst hr3
 refine Ret_chk (i64b_t (by omega) (by omega)) (Ret_chk (i64b_t (by omega) (by omega)) (Ret_chk (i64b_t (by omega) (by omega)) (Ret_bind (Ret.of (above_ok (s:=(s.1,s.2)) (c:=(c:Int)) (by omega) (by simp only;omega))) fun r4 hr4=>?_)))
 have hr4:r4=abv s c:=hr4
 subst hr4
 refine Ret_jn (fun l=>l.1=if abv s c then [(c:Int),(c:Int)+1,(c:Int)+1+1] else [(c:Int)+1+1,(c:Int)+1,(c:Int)]) (fun l hl'=>?_) (fun j hj=>?_)
 ·refine Ret_bind (Ret.of (counted_ok (p:=p) (k:=(c:Int)+1) (d:=2) (fun x hx=>by have:=pin x hx;omega) (by omega) (by omega))) fun r hr=>?_
  rw[show r=cntL p ((c:Int)+1) 2 from hr]
  refine Ret_chk (i64b_t (by omega) (by omega)) ?_
  have hv:l.1.length=3:=by rw[hl'];split<;>rfl
  refine Ret_bind (Ret.of (rep_ok (by omega) (by omega) (by omega) (by omega) (by omega) (by omega) (by omega) (by omega))) fun r hr=>Ret_some ?_
  rw[hr,Int.toNat_natCast,show(((p.idxOf (c:Int):Nat):Int)+1).toNat=p.idxOf (c:Int)+1 by omega,hl']
  simp only[undoL,if_neg k1,if_neg k2,e1,show(((c:Int)+1).toNat-1)=c by omega]
 ·cases hb:abv s c with
  | true=>exact Ret_bif (fun h=>by simp at h) fun _=>hj _ (by simp[hb])
  | false=>
    refine Ret_bif (fun _=>?_) fun h=>by simp at h
    refine rev_go (r:=[(c:Int),(c:Int)+1,(c:Int)+1+1]) (o:=some 3) (K:=j) (by simp) fun o=>hj _ (by simp[hb])
theorem undo_ok {s:Sp} (hs:Good s) {x:Int×Int} (hx:sok s x=true) {p:List Int} (hp:OrdP (aft s x).1.length p):ends_undo fuel (s,(x,p))=some (undoL s x p):=by
 obtain⟨k,at_⟩:=x
 have hl:=hs.len
 obtain⟨hk,g | g | ⟨g,g2,g3⟩⟩:=sok_bound hx
 ·simp only at g;subst g
  have e:(aft s (1,at_)).1.length=s.2.length:=by simp only[aft,if_true,aftL,List.length_drop];omega
  rw[e] at hp
  exact undo_left hs hk hp
 ·simp only at g;subst g
  have e:(aft s (2,at_)).1.length=s.2.length:=by simp only[aft,if_true,aftR,List.length_take,show ¬((2:Int)=1) by omega,if_false];omega
  rw[e] at hp
  exact undo_right hs hk hp
 ·simp only at g g2 g3;subst g
  obtain⟨c,rfl⟩:∃c:Nat,at_=(c:Int)+1:=⟨(at_-1).toNat,by omega⟩
  have e:(aft s (3,(c:Int)+1)).1.length=s.1.length-2:=by
   have:((c:Int)+1).toNat=c+1:=by omega
   simp only[aft,show ¬((3:Int)=1) by omega,show ¬((3:Int)=2) by omega,if_false,this,aftC,List.length_append,List.length_take,List.length_drop,List.length_singleton,Nat.add_sub_cancel];omega
  rw[e] at hp
  exact undo_crimp hs (by omega) (by omega) (by omega) hp
end X
end Go.Vm
namespace Go.Vm
namespace X
open W
theorem idL_nodup (n:Nat):(idL n).Nodup:=by
 unfold idL
 exact List.nodup_range.map (f:=Int.ofNat) (fun a b h h2=>h (Int.ofNat.inj h2))
theorem perm_of_sub:∀ {l p:List Int},l.Nodup→(∀x∈l,x∈p)→∃q,p.Perm (l++q)
 | [],p,_,_=>⟨p,List.Perm.refl _⟩
 | a::l,p,hn,h=>by
   obtain⟨h1,h2⟩:=List.nodup_cons.1 hn
   have ha:=h a List.mem_cons_self
   obtain⟨q,hq⟩:=perm_of_sub (l:=l) (p:=p.erase a) h2 fun x hx=>(List.mem_erase_of_ne (fun e:x=a=>h1 (by rw[←e];exact hx))).2 (h x (List.mem_cons_of_mem _ hx))
   exact⟨q,(List.perm_cons_erase ha).trans (hq.cons a)⟩
theorem ord_of {n:Nat} {p:List Int} (hl:p.length=n) (h:∀i:Nat,i<n→(i:Int)∈p):OrdP n p:=by
 obtain⟨q,hq⟩:=perm_of_sub (idL_nodup n) (p:=p) fun x hx=>by
  have:=mem_idL.1 hx
  have:=h x.toNat (by omega)
  rwa[show((x.toNat:Nat):Int)=x by omega] at this
 have:=List.Perm.length_eq hq
 rw[List.length_append,idL_len] at this
 have:q=[]:=List.eq_nil_of_length_eq_zero (by omega)
 subst this
 rw[List.append_nil] at hq
 exact hq
theorem insL_len {L V:List Int} {i k:Nat} (hi:i≤L.length) (hk:k≤L.length):(insL L i k V).length=i+V.length+ (L.length-k):=by
 simp only[insL,List.length_append,List.length_take,List.length_drop];omega
theorem mem_insL {L V:List Int} {i:Nat} {x:Int} (h:x∈V∨x∈L):x∈insL L i i V:=by
 unfold insL
 rcases h with h | h
 ·exact List.mem_append.2 (.inl (List.mem_append.2 (.inr h)))
 ·rw[←List.take_append_drop i L] at h
  rcases List.mem_append.1 h with h | h
  ·exact List.mem_append.2 (.inl (List.mem_append.2 (.inl h)))
  ·exact List.mem_append.2 (.inr h)
theorem at_idx {p:List Int} {v:Int} (h:v∈p):p=p.take (p.idxOf v)++v::p.drop (p.idxOf v+1):=by
 have hlt:=List.idxOf_lt_length_iff.2 h
 have e:p[p.idxOf v]=v:=List.getElem_idxOf hlt
 conv=>lhs;rw[←List.take_append_drop (p.idxOf v) p,List.drop_eq_getElem_cons hlt,e]
theorem undo_ord {s:Sp} (hs:Good s) {x:Int×Int} (hx:sok s x=true) {p:List Int} (hp:OrdP (aft s x).1.length p):OrdP s.1.length (undoL s x p):=by
 obtain⟨k,at_⟩:=x
 have hl:=hs.len
 have pl:=hp.len
 obtain⟨hk,g | g | ⟨g,g2,g3⟩⟩:=sok_bound hx
 ·simp only at g;subst g
  have e:(aft s (1,at_)).1.length=s.2.length:=by simp only[aft,if_true,aftL,List.length_drop];omega
  rw[e] at hp pl
  have m1:(1:Int)∈(cntL p 0 1).reverse:=by
   rw[List.mem_reverse]
   exact List.mem_map.2 ⟨0,hp.mem (by omega) (by omega),by simp⟩
  have il:=List.idxOf_lt_length_iff.2 m1
  have rl:(cntL p 0 1).reverse.length=s.2.length:=by simp[cntL,pl]
  refine ord_of ?_ fun i hi=>?_
  ·simp only[undoL,if_true]
   rw[insL_len (by split<;>omega) (by split<;>omega)]
   simp only[List.length_singleton];split<;>omega
  ·simp only[undoL,if_true]
   refine mem_insL ?_
   by_cases h0:i=0
   ·left;simp[h0]
   ·right
    rw[List.mem_reverse]
    exact List.mem_map.2 ⟨(i:Int)-1,hp.mem (by omega) (by omega),by rw[if_pos (by omega)];omega⟩
 ·simp only at g;subst g
  have e:(aft s (2,at_)).1.length=s.2.length:=by simp only[aft,if_true,aftR,List.length_take,show ¬((2:Int)=1) by omega,if_false];omega
  rw[e] at hp pl
  have m1:((s.2.length:Int)-1)∈p:=hp.mem (by omega) (by omega)
  have il:=List.idxOf_lt_length_iff.2 m1
  refine ord_of ?_ fun i hi=>?_
  ·simp only[undoL,if_true,show ¬((2:Int)=1) by omega,if_false]
   rw[insL_len (by split<;>omega) (by split<;>omega)]
   simp only[List.length_singleton];split<;>omega
  ·simp only[undoL,if_true,show ¬((2:Int)=1) by omega,if_false]
   refine mem_insL ?_
   by_cases h0:i=s.2.length
   ·left;simp[h0]
   ·right;exact hp.mem (by omega) (by omega)
 ·simp only at g g2 g3;subst g
  obtain⟨c,rfl⟩:∃c:Nat,at_=(c:Int)+1:=⟨(at_-1).toNat,by omega⟩
  have e:(aft s (3,(c:Int)+1)).1.length=s.1.length-2:=by
   have:((c:Int)+1).toNat=c+1:=by omega
   simp only[aft,show ¬((3:Int)=1) by omega,show ¬((3:Int)=2) by omega,if_false,this,aftC,List.length_append,List.length_take,List.length_drop,List.length_singleton,Nat.add_sub_cancel];omega
  rw[e] at hp pl
  have e1:(c:Int)+1-1=c:=by omega
  have m1:(c:Int)∈p:=hp.mem (by omega) (by omega)
  have il:=List.idxOf_lt_length_iff.2 m1
  have cl:(cntL p ((c:Int)+1) 2).length=p.length:=by simp[cntL]
  have ea:=at_idx m1
  have hV:∀b:Bool,(if b then [(c:Int),(c:Int)+1,(c:Int)+1+1] else [(c:Int)+1+1,(c:Int)+1,(c:Int)]).length=3:=fun b=>by cases b<;>rfl
  simp only[undoL,show ¬((3:Int)=1) by omega,show ¬((3:Int)=2) by omega,if_false,e1]
  refine ord_of ?_ fun i hi=>?_
  ·rw[insL_len (by omega) (by omega),hV];omega
  ·unfold insL
   by_cases hV2:i=c∨i=c+1∨i=c+2
   ·refine List.mem_append.2 (.inl (List.mem_append.2 (.inr ?_)))
    split<;>simp<;>omega
   ·have:∃y∈p,y≠(c:Int)∧(if(c:Int)+1≤y then y+2 else y)=(i:Int):=by
     by_cases h:i<c
     ·exact⟨i,hp.mem (by omega) (by omega),by omega,by rw[if_neg (by omega)]⟩
     ·exact⟨(i:Int)-2,hp.mem (by omega) (by omega),by omega,by rw[if_pos (by omega)];omega⟩
    obtain⟨y,hy,hyc,hyi⟩:=this
    rw[ea] at hy
    unfold cntL
    rw[←List.map_take,←List.map_drop]
    rcases List.mem_append.1 hy with hy | hy
    ·exact List.mem_append.2 (.inl (List.mem_append.2 (.inl (List.mem_map.2 ⟨y,hy,hyi⟩))))
    ·rcases List.mem_cons.1 hy with hy | hy
     ·exact absurd hy hyc
     ·exact List.mem_append.2 (.inr (List.mem_map.2 ⟨y,hy,hyi⟩))
end X
end Go.Vm
namespace Go.Vm
namespace X
open W
def pileN:Nat→Sp→List Int
 | 0,_=>[0]
 | m+1,s=>match stepsL s with
   | []=>[0]
   | x::_=>undoL s x (pileN m (aft s x))
def pileS (s:Sp):List Int:=pileN s.2.length s
theorem pileN_ge:∀ {m n:Nat} {s:Sp},s.2.length≤m→s.2.length≤n→pileN m s=pileN n s
 | 0,0,s,_,_=>rfl
 | 0,n+1,s,h,_=>by simp only[pileN];rw[stepsL_nil (by omega)]
 | m+1,0,s,_,h=>by simp only[pileN];rw[stepsL_nil (by omega)]
 | m+1,n+1,s,h1,h2=>by
   simp only[pileN]
   cases e:stepsL s with
   | nil=>rfl
   | cons x t=>
     have:=aft_less (sok_of_cons e)
     simp only
     rw[pileN_ge (m:=m) (n:=n) (by omega) (by omega)]
theorem pileS_nil {s:Sp} (h:stepsL s=[]):pileS s=[0]:=by
 unfold pileS
 cases s.2.length with
 | zero=>rfl
 | succ n=>simp only[pileN];rw[h]
theorem pileS_cons {s:Sp} {x:Int×Int} {t:List (Int×Int)} (h:stepsL s=x::t):pileS s=undoL s x (pileS (aft s x)):=by
 have h1:=aft_less (sok_of_cons h)
 have h2:pileS s=pileN ((s.2.length-1)+1) s:=by unfold pileS;congr 1;omega
 rw[h2]
 simp only[pileN,h]
 rw[pileN_ge (m:=s.2.length-1) (n:=(aft s x).2.length) (by omega) (by omega)]
 rfl
def Done (s:Sp):Prop:=(foldS s).2.2.length=0
theorem Done.cons {s:Sp} (h:Done s) {x:Int×Int} {t:List (Int×Int)} (e:stepsL s=x::t):Done (aft s x):=by
 unfold Done at h ⊢
 rw[foldS_cons e] at h;exact h
theorem pile_ord {s:Sp} (hs:Good s) (hd:Done s):OrdP s.1.length (pileS s):=by
 revert hs hd
 refine fold_ind (P:=fun s=>Good s→Done s→OrdP s.1.length (pileS s)) ?_ ?_ s
 ·intro s e hs hd
  unfold Done at hd
  rw[foldS_nil e] at hd
  rw[pileS_nil e,show s.1.length=1 by have:=hs.len;simp only at hd;omega]
  exact List.Perm.refl _
 ·intro s x t e ih hs hd
  have hx:=sok_of_cons e
  rw[pileS_cons e]
  exact undo_ord hs hx (ih (aft_good hs hx) (hd.cons e))
theorem Pile_c1_ok {s:Sp} (hs:Good s) (hd:Done s):∀n,s.2.length<n→ends_Pile_c1_r fuel n (s,())=some (pileS s):=by
 revert hs hd
 refine fold_ind (P:=fun s=>Good s→Done s→∀n,s.2.length<n→ends_Pile_c1_r fuel n (s,())=some (pileS s)) ?_ ?_ s
 ·intro s e hs hd n hn
  obtain⟨n,rfl⟩:∃m,n=m+1:=⟨n-1,by omega⟩
  simp only[ends_Pile_c1_r,ends_Pile_c1_f]
  rw[show(s.1,s.2)=s from rfl,steps_ok hs.val,e,pileS_nil e]
  rfl
 ·intro s x t e ih hs hd n hn
  obtain⟨n,rfl⟩:∃m,n=m+1:=⟨n-1,by omega⟩
  have hx:=sok_of_cons e
  have ha:=aft_good hs hx
  have hl:=aft_less hx
  simp only[ends_Pile_c1_r,ends_Pile_c1_f]
  rw[show(s.1,s.2)=s from rfl,steps_ok hs.val,e]
  simp only[Option.bind_some,List.getD_cons_zero]
  rw[decide_eq_false (by simp only[List.length_cons];omega),cond_false,chk_t (inb_t (by omega) (by simp only[List.length_cons];omega)),chk_t (inb_t (by omega) (by simp only[List.length_cons];omega))]
  rw[show(x.1,x.2)=x from rfl,done_ok hs.val hx]
  simp only[Option.bind_some]
  rw[show((aft s x).1,(aft s x).2)=aft s x from rfl,ih ha (hd.cons e) n (by omega)]
  simp only[Option.bind_some]
  rw[undo_ok hs hx (pile_ord ha (hd.cons e)),pileS_cons e]
  rfl
theorem Pile_ok {s:Sp} (hs:Good s):(Done s→ends_Pile fuel s=some (pileS s,0))∧(¬Done s→ends_Pile fuel s=some ([],15)):=by
 unfold ends_Pile
 rw[show(s.1,s.2)=s from rfl,Folds_ok hs]
 simp only[Option.bind_some,ne_eq,not_true_eq_false,decide_false,cond_false]
 constructor
 ·intro hd
  have e:decide ((foldS s).2.2.length=0)=true:=decide_eq_true hd
  have hl:=hs.len
  rw[e]
  simp only[Bool.not_true,cond_false]
  unfold ends_Pile_c1
  rw[Pile_c1_ok hs hd 40 (by omega)]
  simp[bnb,capIs,chk]
 ·intro hd
  have e:decide ((foldS s).2.2.length=0)=false:=decide_eq_false hd
  rw[e]
  rfl
end X
end Go.Vm
namespace Go.Vm
namespace X
open W
theorem flat_id {g:Int→List Int}:∀ {A:List Int},(∀x∈A,g x=[x])→A.flatMap g=A
 | [],_=>rfl
 | a::A,h=>by
   rw[List.flatMap_cons,h a (List.mem_cons_self ..),flat_id fun x hx=>h x (List.mem_cons_of_mem _ hx)];rfl
theorem flat_at {g:Int→List Int} {p:List Int} {v:Int} (hn:p.Nodup) (hv:v∈p) (hg:∀x,x≠v→g x=[x]):p.flatMap g=p.take (p.idxOf v)++g v++p.drop (p.idxOf v+1):=by
 have e:=at_idx hv
 have hn':=hn
 rw[e] at hn'
 rw[List.nodup_append] at hn'
 obtain⟨h1,h2,h3⟩:=hn'
 have hB:=(List.nodup_cons.1 h2).1
 conv=>lhs;rw[e]
 rw[List.flatMap_append,List.flatMap_cons,flat_id (A:=p.take (p.idxOf v)) fun x hx=>hg x (fun hxv=>h3 x hx v (List.mem_cons_self ..) hxv),flat_id (A:=p.drop (p.idxOf v+1)) fun x hx=>hg x (fun hxv=>hB (by subst hxv;exact hx)),List.append_assoc]
end X
end Go.Vm
namespace Go.Vm
namespace X
open W
theorem OrdP.nodup {n:Nat} {p:List Int} (h:OrdP n p):p.Nodup:=(List.Perm.nodup_iff h).2 (idL_nodup n)
theorem insL_before {p:List Int} {v y:Int} (hv:v∈p):insL p (p.idxOf v) (p.idxOf v) [y]=p.take (p.idxOf v)++[y,v]++p.drop (p.idxOf v+1):=by
 have hlt:=List.idxOf_lt_length_iff.2 hv
 have e:p[p.idxOf v]=v:=List.getElem_idxOf hlt
 unfold insL
 rw[List.drop_eq_getElem_cons hlt,e];simp
theorem insL_after {p:List Int} {v y:Int} (hv:v∈p):insL p (p.idxOf v+1) (p.idxOf v+1) [y]=p.take (p.idxOf v)++[v,y]++p.drop (p.idxOf v+1):=by
 have hlt:=List.idxOf_lt_length_iff.2 hv
 have e:p[p.idxOf v]=v:=List.getElem_idxOf hlt
 unfold insL
 rw[List.take_add_one,List.getElem?_eq_getElem hlt,e];simp
theorem undo_right_flat {s:Sp} (hk:0<s.2.length) {at_:Int} {p:List Int} (hp:OrdP s.2.length p):
  undoL s (2,at_) p=p.flatMap fun k=>if k=(s.2.length:Int)-1 then(if abv s (s.2.length-1) then [k,(s.2.length:Int)] else [(s.2.length:Int),k]) else [k]:=by
 have m1:((s.2.length:Int)-1)∈p:=hp.mem (by omega) (by omega)
 rw[flat_at hp.nodup m1 (fun x hx=>if_neg hx),if_pos rfl]
 simp only[undoL,if_true,show ¬((2:Int)=1) by omega,if_false]
 cases abv s (s.2.length-1) with
 | true=>simp only[if_true];exact insL_after m1
 | false=>simp only[Bool.false_eq_true,if_false,Nat.add_zero];exact insL_before m1
theorem cntL_nodup {p:List Int} {k d:Int} (hd:0≤d) (h:p.Nodup):(cntL p k d).Nodup:=by
 unfold cntL
 refine h.map _ fun a b hab e=>hab ?_
 split at e<;>split at e<;>omega
theorem undo_left_flat {s:Sp} (hk:0<s.2.length) {at_:Int} {p:List Int} (hp:OrdP s.2.length p):
  undoL s (1,at_) p=(cntL p 0 1).reverse.flatMap fun k=>if k=1 then(if abv s 0 then [0,k] else [k,0]) else [k]:=by
 have m1:(1:Int)∈(cntL p 0 1).reverse:=by
  rw[List.mem_reverse]
  exact List.mem_map.2 ⟨0,hp.mem (by omega) (by omega),by simp⟩
 have nd:(cntL p 0 1).reverse.Nodup:=(List.Perm.nodup_iff (List.reverse_perm _)).2 (cntL_nodup (by omega) hp.nodup)
 rw[flat_at nd m1 (fun x hx=>if_neg hx),if_pos rfl]
 simp only[undoL,if_true]
 cases abv s 0 with
 | true=>simp only[if_true,Nat.add_zero];exact insL_before m1
 | false=>simp only[Bool.false_eq_true,if_false];exact insL_after m1
theorem flat_map {g:Int→List Int} {φ:Int→Int}:∀ {A:List Int},(∀x∈A,g x=[φ x])→A.flatMap g=A.map φ
 | [],_=>rfl
 | a::A,h=>by
   rw[List.flatMap_cons,h a (List.mem_cons_self ..),flat_map fun x hx=>h x (List.mem_cons_of_mem _ hx)];rfl
theorem flat_at' {g:Int→List Int} {φ:Int→Int} {p:List Int} {v:Int} (hn:p.Nodup) (hv:v∈p) (hg:∀x,x≠v→g x=[φ x]):p.flatMap g=(p.take (p.idxOf v)).map φ++g v++(p.drop (p.idxOf v+1)).map φ:=by
 have e:=at_idx hv
 have hn':=hn
 rw[e] at hn'
 rw[List.nodup_append] at hn'
 obtain⟨h1,h2,h3⟩:=hn'
 have hB:=(List.nodup_cons.1 h2).1
 conv=>lhs;rw[e]
 rw[List.flatMap_append,List.flatMap_cons,flat_map (A:=p.take (p.idxOf v)) (φ:=φ) fun x hx=>hg x (fun hxv=>h3 x hx v (List.mem_cons_self ..) hxv),flat_map (A:=p.drop (p.idxOf v+1)) (φ:=φ) fun x hx=>hg x (fun hxv=>hB (by subst hxv;exact hx)),List.append_assoc]
theorem undo_crimp_flat {s:Sp} {c:Nat} {k:Int} (k1:k≠1) (k2:k≠2) {n:Nat} (hc:c<n) {p:List Int} (hp:OrdP n p):
  undoL s (k,(c:Int)+1) p=p.flatMap fun k=>if k=(c:Int) then(if abv s c then [k,k+1,k+2] else [k+2,k+1,k]) else [if(c:Int)+1≤k then k+2 else k]:=by
 have m1:(c:Int)∈p:=hp.mem (by omega) (by omega)
 rw[flat_at' hp.nodup m1 (φ:=fun k=>if(c:Int)+1≤k then k+2 else k) (fun x hx=>if_neg hx),if_pos rfl]
 simp only[undoL,if_neg k1,if_neg k2]
 rw[show(c:Int)+1-1=c by omega,show((c:Int)+1).toNat-1=c by omega,show(c:Int)+1+1=c+2 by omega]
 unfold insL cntL
 rw[List.map_take,List.map_drop]
end X
end Go.Vm
namespace Go.Vm
namespace X
open W
theorem higher_up {s:Sp} (h:Dec s) {c:Nat} (hc:c<s.2.length) {a b:Int} (ha:a=c) (hb:b=(c:Int)+1):law18_higher fuel (s,(a,b))=some (abv s c):=by
 subst ha;subst hb
 have hk:=h.2 _ (getD_mem (L:=s.2) hc)
 unfold law18_higher abv
 simp only[show min (c:Int) ((c:Int)+1)=c by omega,Int.toNat_natCast]
 rw[chk_t (inb_t (by omega) (by omega)),chk_t (by simp;omega)]
 rcases(by omega:c%2=0∨c%2=1) with e | e
 ·rw[decide_eq_true (show((c:Int)+1)%2=1 by omega),cond_true,decide_eq_true e]
  simp
 ·rw[decide_eq_false (show ¬((c:Int)+1)%2=1 by omega),cond_false,decide_eq_false (show ¬c%2=0 by omega)]
  rcases hk with hk | hk<;>rw[hk]<;>rfl
theorem higher_down {s:Sp} (h:Dec s) {c:Nat} (hc:c<s.2.length) {a b:Int} (ha:a=(c:Int)+1) (hb:b=c):law18_higher fuel (s,(a,b))=some (!abv s c):=by
 subst ha;subst hb
 have hk:=h.2 _ (getD_mem (L:=s.2) hc)
 unfold law18_higher abv
 simp only[show min ((c:Int)+1) (c:Int)=c by omega,Int.toNat_natCast]
 rw[chk_t (inb_t (by omega) (by omega)),chk_t (by simp)]
 rcases(by omega:c%2=0∨c%2=1) with e | e
 ·rw[decide_eq_false (show ¬(c:Int)%2=1 by omega),cond_false,decide_eq_true e]
  rcases hk with hk | hk<;>rw[hk]<;>rfl
 ·rw[decide_eq_true (show(c:Int)%2=1 by omega),cond_true,decide_eq_false (show ¬c%2=0 by omega)]
  rcases hk with hk | hk<;>rw[hk]<;>rfl
def gL (s:Sp) (k:Int):List Int:=if k=1 then(if abv s 0 then [0,k] else [k,0]) else [k]
def gR (s:Sp) (k:Int):List Int:=if k=(s.2.length:Int)-1 then(if abv s (s.2.length-1) then [k,(s.2.length:Int)] else [(s.2.length:Int),k]) else [k]
def gC (s:Sp) (c:Nat) (k:Int):List Int:=if k=(c:Int) then(if abv s c then [k,k+1,k+2] else [k+2,k+1,k]) else [if(c:Int)+1≤k then k+2 else k]
theorem pairL {s:Sp} (h:Dec s) (hk:0<s.2.length) (k:Int):law18_pair fuel (s,(k,(decide (k=1),(0,0))))=some (gL s k):=by
 unfold law18_pair gL
 by_cases e:k=1
 ·subst e
  simp only[decide_true,Bool.not_true,cond_false,if_true]
  rw[decide_eq_false (by omega),cond_false,show((s.1,s.2),((1:Int),(0:Int)))=(s,(1,0)) from rfl,higher_down h hk (c:=0) (a:=1) (b:=0) rfl rfl]
  cases abv s 0<;>rfl
 ·simp only[decide_eq_false e,Bool.not_false,cond_true,if_neg e]
theorem pairR {s:Sp} (h:Dec s) (hk:0<s.2.length) (k:Int) {n:Int} (hn:n=(s.2.length:Int)+1):law18_pair fuel (s,(k,(decide (k=n-2),(n-1,n-2))))=some (gR s k):=by
 subst hn
 rw[show(s.2.length:Int)+1-2=(s.2.length:Int)-1 by omega,show(s.2.length:Int)+1-1=(s.2.length:Int) by omega]
 unfold law18_pair gR
 by_cases e:k=(s.2.length:Int)-1
 ·simp only[decide_eq_true e,Bool.not_true,cond_false,if_pos e]
  rw[decide_eq_false (by omega),cond_false,show((s.1,s.2),(k,(s.2.length:Int)))=(s,(k,(s.2.length:Int))) from rfl,higher_up h (c:=s.2.length-1) (by omega) (by omega) (by omega)]
  cases abv s (s.2.length-1)<;>rfl
 ·simp only[decide_eq_false e,Bool.not_false,cond_true,if_neg e]
theorem take_snoc_flat {G:Int→List Int} {L:List Int} {i:Nat} (h:i<L.length):(L.take (i+1)).flatMap G=(L.take i).flatMap G++G (L.getD i 0):=by
 rw[take_snoc h,List.flatMap_append];simp
theorem flat_len3 {G:Int→List Int} (hG:∀k,(G k).length≤3):∀ {L:List Int},(L.flatMap G).length≤3*L.length
 | []=>by simp
 | a::L=>by
   have:=flat_len3 hG (L:=L)
   have:=hG a
   rw[List.flatMap_cons,List.length_append,List.length_cons];omega
theorem gL_len {s:Sp} (k:Int):(gL s k).length≤3:=by unfold gL;split<;>(try split)<;>simp
theorem gR_len {s:Sp} (k:Int):(gR s k).length≤3:=by unfold gR;split<;>(try split)<;>simp
theorem gC_len {s:Sp} {c:Nat} (k:Int):(gC s c k).length≤3:=by unfold gC;split<;>(try split)<;>simp
theorem law18_EndsBack_true {a:List Int×List Int} (h1:bytes a.1) (h2:bytes a.2):law18_EndsBack fuel a=some true:=by
 apply Ret.eq
 unfold law18_EndsBack
 refine Ret_bind (law18_D_ok (a:=(a.1,a.2)) h1 h2) fun s hs0=>?_
 have hs:=hs0.1
 have hl:=hs.len
 have hn:=hs.1.1.1
 simp only[eta]
 refine Ret_bind (Ret.of (Steps_ok hs.1)) fun r2 hr2=>?_
 subst hr2
 by_cases hd:Done s
 case neg=>
  refine Ret_bind (Ret.of ((Pile_ok hs).2 hd)) fun r3 hr3=>?_
  subst hr3
  refine Ret_dec (fun h=>absurd rfl h) fun _=>Ret_jn (fun b=>b=true) (fun b hb=>?_) fun j hj=>Ret_dec (fun _=>hj _ rfl) fun h=>absurd (by decide) h
  subst hb
  exact Ret_bif (fun _=>Ret_dec (fun _=>Ret_bind (Ret.of lives18) fun r hr=>Ret_some hr) fun h=>absurd rfl h) fun h=>by cases h
 refine Ret_bind (Ret.of ((Pile_ok hs).1 hd)) fun r3 hr3=>?_
 subst hr3
 have ho:=pile_ord hs hd
 have pl:=ho.len
 refine Ret_dec (fun h=>absurd rfl h) fun _=>Ret_jn (fun b=>b=decide (stepsL s=[])) (fun b hb=>?_) fun j hj=>Ret_dec (fun h=>absurd rfl h) fun _=>hj _ ?_
 case refine_2=>
  apply decide_eq_decide.2
  rw[←List.length_eq_zero_iff];simp only;omega
 subst hb
 refine Ret_dec (fun hnil=>?_) fun hcons=>?_
 ·refine Ret_dec (fun h=>by cases h) fun _=>?_
  have hp:=pileS_nil hnil
  have hd':=hd
  unfold Done at hd'
  rw[foldS_nil hnil] at hd'
  simp only at hd'
  refine Ret_dec (fun h=>absurd (by simp only[hp];rfl) h) fun _=>Ret_dec (fun h=>absurd rfl h) fun _=>?_
  refine Ret_loop (Inv:=fun i:Int=>0≤i∧i≤1) (m:=fun i=>(1-i).toNat) ?_ _ _ ⟨by omega,by omega⟩ (by simp only[fuel];omega)
  intro i rec ⟨i1,i2⟩ ih
  refine Ret_dec (fun hlt=>?_) fun _=>Ret_dec (fun _=>Ret_bind (Ret.of lives18) fun r hr=>Ret_some hr) fun h=>absurd (by omega) h
  simp only[hp,List.length_singleton] at hlt
  refine Ret_chk (by simp only[hp];exact inb_t (by omega) (by simp only[List.length_singleton];omega)) (Ret_chk (inb_t (by omega) (by omega)) (Ret_dec (fun h=>absurd (by simp only[hp]) h) fun _=>Ret_chk (i64b_t (by omega) (by omega)) (ih _ ⟨by omega,by omega⟩ (by omega))))
 ·obtain⟨x,t,e⟩:∃x t,stepsL s=x::t:=by
   cases e:stepsL s with
   | nil=>exact absurd e hcons
   | cons x t=>exact⟨x,t,rfl⟩
  have hx:=sok_of_cons e
  have ha:=aft_good hs hx
  have hda:=hd.cons e
  have hq:=pile_ord ha hda
  have ql:=hq.len
  have qin:=hq.in
  have hk0:=(sok_bound hx).1
  have pe:=pileS_cons e
  have al:=ha.len
  have an:=ha.1.1.1
  rw[e]
  simp only[List.getD_cons_zero,eta]
  refine Ret_chk (inb_t (by omega) (by simp only[List.length_cons];omega)) ?_
  refine Ret_bind (Ret.of (Do_ok hs.1 x)) fun r8 hr8=>?_
  rw[if_pos hx] at hr8
  subst hr8
  simp only[eta]
  refine Ret_bind (Ret.of ((Pile_ok ha).1 hda)) fun r9 hr9=>?_
  subst hr9
  generalize pileS (aft s x)=q at hq ql qin pe ⊢
  refine Ret_jn (fun b=>b=false) (fun b hb=>?_) fun j hj=>Ret_dec (fun h=>absurd rfl h) fun _=>Ret_dec (fun h=>absurd rfl h) fun _=>hj _ (decide_eq_false (by simp only;omega))
  subst hb
  refine Ret_bif (fun h=>by cases h) fun _=>?_
  simp only
  have fin:∀w:List Int,w=pileS s→Ret (chk (bnb 0 ((w.length:Nat):Int) w.length&&decide (((w.length:Nat):Int)≤((w.length:Nat):Int))&&decide (((w.length:Nat):Int)≤((w.length:Nat):Int))) (bif(decide ((((pileS s).length:Nat):Int)≠((w.length:Nat):Int))) then(some false) else(bif(decide ((((pileS s).length:Nat):Int)≠(((pileS s).length:Nat):Int))) then(some false) else(loopF (fun(rec17:Int→Option Bool) (x17:Int)=>bif(decide (x17< (((pileS s).length:Nat):Int))) then(chk (inb x17 (pileS s).length) (chk (inb x17 w.length) (bif(decide (((pileS s).getD x17.toNat 0)≠(w.getD (0+x17.toNat) 0))) then(some false) else(chk (i64b (x17+1)) (rec17 (x17+1)))))) else((law18_lives fuel ()).bind fun r18=>some r18)) fuel 0)))) fun x=>x=true:=fun w hw=>by
   subst hw
   refine Ret_chk (by simp[bnb]) (Ret_dec (fun h=>absurd rfl h) fun _=>Ret_dec (fun h=>absurd rfl h) fun _=>?_)
   refine Ret_loop (Inv:=fun i:Int=>0≤i) (m:=fun i=>(((pileS s).length:Int)-i).toNat) ?_ _ _ (Int.le_refl 0) (by simp only[fuel];omega)
   intro i rec i1 ih
   refine Ret_dec (fun hlt=>Ret_chk (inb_t i1 hlt) (Ret_chk (inb_t i1 hlt) (Ret_dec (fun h=>absurd (by rw[Nat.zero_add]) h) fun _=>Ret_chk (i64b_t (by omega) (by omega)) (ih _ (by omega) (by omega))))) fun _=>Ret_bind (Ret.of lives18) fun r hr=>Ret_some hr
  obtain⟨k,at_⟩:=x
  obtain⟨-,g | g | ⟨g,g2,g3⟩⟩:=sok_bound hx
  ·simp only at g;subst g
   have ea:(aft s (1,at_)).1.length=s.2.length:=by simp only[aft,if_true,aftL,List.length_drop];omega
   rw[ea] at hq qin ql
   rw[undo_left_flat hk0 hq] at pe
   have rl:(cntL q 0 1).reverse.length=q.length:=by simp[cntL]
   have gv:∀i:Nat,i<q.length→(cntL q 0 1).reverse.getD i 0=q.getD (q.length-1-i) 0+1:=fun i hi=>by
    have hm:=qin _ (getD_mem (L:=q) (i:=q.length-1-i) (by omega))
    rw[getD_reverse (by simp[cntL];omega)]
    have h':q.length-1-i<q.length:=by omega
    simp only[cntL,List.length_map,List.getD,List.getElem?_map,List.getElem?_eq_getElem h',Option.map_some,Option.getD_some] at hm ⊢
    rw[if_pos hm.1]
   refine Ret_loop (Inv:=fun x:List Int×Int=>0≤x.2∧x.2≤q.length∧x.1=((cntL q 0 1).reverse.take x.2.toNat).flatMap (gL s)) (m:=fun x=>((q.length:Int)-x.2).toNat) ?_ _ _ ⟨by simp,by simp,by simp⟩ (by simp only[fuel];omega)
   rintro ⟨w,i⟩ rec ⟨i1,i2,i3⟩ ih
   simp only at i1 i2 i3 ⊢
   refine Ret_dec (fun hlt=>?_) fun hge=>?_
   ·have hlw:=flat_len3 (gL_len (s:=s)) (L:=(cntL q 0 1).reverse.take i.toNat)
    rw[←i3,List.length_take] at hlw
    have hb:=qin _ (getD_mem (L:=q) (i:=q.length-1-i.toNat) (by omega))
    refine Ret_chk (inb_t i1 hlt) (Ret_chk (inb_t (by omega) (by simp only[List.length_cons];omega)) (Ret_dec (fun _=>?_) fun h=>absurd trivial h))
    have e1:(((q.length:Nat):Int)-1-i).toNat=q.length-1-i.toNat:=by omega
    rw[e1]
    refine Ret_chk (i64b_t (by omega) (by omega)) (Ret_chk (i64b_t (by omega) (by omega)) (Ret_chk (inb_t (by omega) (by omega)) (Ret_chk (i64b_t (by omega) (by omega)) ?_)))
    refine Ret_bind (Ret.of (pairL hs.1 hk0 _)) fun r hr=>?_
    subst hr
    have:=gL_len (s:=s) (q.getD (q.length-1-i.toNat) 0+1)
    refine Ret_chk (lenOk_t (by omega)) (Ret_chk (i64b_t (by omega) (by omega)) (ih _ ⟨by simp only;omega,by simp only;omega,?_⟩ (by simp only;omega)))
    simp only
    rw[show(i+1).toNat=i.toNat+1 by omega,take_snoc_flat (by omega),←i3,gv _ (by omega)]
   ·refine fin w ?_
    rw[i3,List.take_of_length_le (by omega),pe]
    rfl
  ·simp only at g;subst g
   have ea:(aft s (2,at_)).1.length=s.2.length:=by simp only[aft,if_true,aftR,List.length_take,show ¬((2:Int)=1) by omega,if_false];omega
   rw[ea] at hq qin ql
   rw[undo_right_flat hk0 hq] at pe
   refine Ret_loop (Inv:=fun x:List Int×Int=>0≤x.2∧x.2≤q.length∧x.1=(q.take x.2.toNat).flatMap (gR s)) (m:=fun x=>((q.length:Int)-x.2).toNat) ?_ _ _ ⟨by simp,by simp,by simp⟩ (by simp only[fuel];omega)
   rintro ⟨w,i⟩ rec ⟨i1,i2,i3⟩ ih
   simp only at i1 i2 i3 ⊢
   refine Ret_dec (fun hlt=>?_) fun hge=>?_
   ·have hlw:=flat_len3 (gR_len (s:=s)) (L:=q.take i.toNat)
    rw[←i3,List.length_take] at hlw
    refine Ret_chk (inb_t i1 hlt) (Ret_chk (inb_t (by omega) (by simp only[List.length_cons];omega)) (Ret_dec (fun h=>by omega) fun _=>Ret_dec (fun _=>?_) fun h=>absurd trivial h))
    refine Ret_chk (i64b_t (by omega) (by omega)) (Ret_chk (i64b_t (by omega) (by omega)) (Ret_chk (i64b_t (by omega) (by omega)) ?_))
    refine Ret_bind (Ret.of (pairR hs.1 hk0 _ (n:=(s.1.length:Int)) (by omega))) fun r hr=>?_
    subst hr
    have:=gR_len (s:=s) (q.getD i.toNat 0)
    refine Ret_chk (lenOk_t (by omega)) (Ret_chk (i64b_t (by omega) (by omega)) (ih _ ⟨by simp only;omega,by simp only;omega,?_⟩ (by simp only;omega)))
    simp only
    rw[show(i+1).toNat=i.toNat+1 by omega,take_snoc_flat (by omega),←i3]
   ·refine fin w ?_
    rw[i3,List.take_of_length_le (by omega),pe]
    rfl
  ·simp only at g g2 g3;subst g
   obtain⟨c,rfl⟩:∃c:Nat,at_=(c:Int)+1:=⟨(at_-1).toNat,by omega⟩
   have ea:(aft s (3,(c:Int)+1)).1.length=s.1.length-2:=by
    have:((c:Int)+1).toNat=c+1:=by omega
    simp only[aft,show ¬((3:Int)=1) by omega,show ¬((3:Int)=2) by omega,if_false,this,aftC,List.length_append,List.length_take,List.length_drop,List.length_singleton,Nat.add_sub_cancel];omega
   rw[ea] at hq qin ql
   rw[undo_crimp_flat (by omega) (by omega) (n:=s.1.length-2) (by omega) hq] at pe
   refine Ret_loop (Inv:=fun x:List Int×Int=>0≤x.2∧x.2≤q.length∧x.1=(q.take x.2.toNat).flatMap (gC s c)) (m:=fun x=>((q.length:Int)-x.2).toNat) ?_ _ _ ⟨by simp,by simp,by simp⟩ (by simp only[fuel];omega)
   rintro ⟨w,i⟩ rec ⟨i1,i2,i3⟩ ih
   simp only at i1 i2 i3 ⊢
   refine Ret_dec (fun hlt=>?_) fun hge=>?_
   ·have hlw:=flat_len3 (gC_len (s:=s) (c:=c)) (L:=q.take i.toNat)
    rw[←i3,List.length_take] at hlw
    have hb:=qin _ (getD_mem (L:=q) (i:=i.toNat) (by omega))
    have es:=take_snoc_flat (G:=gC s c) (L:=q) (i:=i.toNat) (by omega)
    rw[←i3] at es
    have hin:=inb_t (i:=(0:Int)) (n:=(((3:Int),(c:Int)+1)::t).length) (by omega) (by simp only[List.length_cons];omega)
    generalize hv:q.getD i.toNat 0=k at hb es ⊢
    refine Ret_chk (inb_t i1 hlt) (Ret_chk hin (Ret_dec (fun h=>by omega) fun _=>Ret_dec (fun h=>by omega) fun _=>Ret_chk hin ?_))
    have nxt:∀p:List Int,p=gC s c k→Ret (chk (lenOk (w.length+p.length)) (chk (i64b (i+1)) (rec (w++p,i+1)))) fun x=>x=true:=fun p hp=>by
     subst hp
     have:=gC_len (s:=s) (c:=c) k
     refine Ret_chk (lenOk_t (by omega)) (Ret_chk (i64b_t (by omega) (by omega)) (ih _ ⟨by simp only;omega,by simp only;omega,?_⟩ (by simp only;omega)))
     simp only
     rw[show(i+1).toNat=i.toNat+1 by omega,es]
    refine Ret_jn (fun x=>k≠(c:Int)→x.1=gC s c k) (fun x hx=>?_) fun j hj=>?_
    ·rw[show(c:Int)+1-1=c by omega]
     refine Ret_chk hin (Ret_chk (i64b_t (by omega) (by omega)) (Ret_dec (fun hkc=>?_) fun hkc=>nxt _ (hx hkc)))
     have hg:gC s c k=if abv s c then [k,k+1,k+2] else [k+2,k+1,k]:=if_pos hkc
     refine Ret_jn (fun x=>x.1=[k,k+1,k+2]) (fun x hx=>?_) fun j hj=>Ret_chk (i64b_t (by omega) (by omega)) (Ret_chk (i64b_t (by omega) (by omega)) (hj _ rfl))
     refine Ret_chk (i64b_t (by omega) (by omega)) (Ret_bind (Ret.of (higher_up hs.1 (c:=c) (by omega) hkc (by omega))) fun r hr=>?_)
     subst hr
     refine Ret_bif (fun hb'=>?_) fun hb'=>?_
     ·refine Ret_chk (i64b_t (by omega) (by omega)) (Ret_chk (i64b_t (by omega) (by omega)) (nxt [k+2,k+1,k] ?_))
      rw[hg,if_neg (by simpa using hb')]
     ·refine nxt _ ?_
      rw[hx,hg,if_pos (by simpa using hb')]
    ·refine Ret_dec (fun hge'=>?_) fun hlt'=>?_
     ·exact Ret_chk (i64b_t (by omega) (by omega)) (hj _ fun hkc=>by unfold gC;rw[if_neg hkc,if_pos hge'])
     ·exact hj _ fun hkc=>by unfold gC;rw[if_neg hkc,if_neg hlt']
   ·refine fin w ?_
    rw[i3,List.take_of_length_le (by omega),pe]
    rfl
end X
end Go.Vm
