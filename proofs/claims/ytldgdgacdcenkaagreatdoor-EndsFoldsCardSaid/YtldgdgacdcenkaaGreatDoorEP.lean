/-
  Ends: plain laws: the steps that are allowed, the strips behind them.
  Ends: plain laws: the strip behind a step.
  Ends: plain laws: strips that are good stay good; the strip behind a step by the statement's definition.
  Ends: plain laws: strips of plain data; folding; the laws EndsSteps and EndsFold.
  Ends: plain laws: the pile put together backwards.
  Ends: plain laws: a step undone.
  Ends: plain laws: what is put together backwards is an order of the segments.
  Ends: plain laws: Pile.
  Ends: lists in which one element is replaced by some.
  Ends: the law EndsBack: lists.
-/
import Derived.Test.YtldgdgacdcenkaaGreatDoorPPa
set_option linter.unusedSimpArgs false
set_option linter.unusedVariables false
set_option linter.unusedSectionVars false
set_option linter.unnecessarySimpa false
namespace Go.Vm
namespace X
open W Go.Proofs.St
theorem lives18:law18_lives fuel ()=some true:=by kernel_rfl
abbrev Sp:=List Int×List Int
def lok (s:Sp):Bool:=decide (0<s.2.length)&&decide (s.1.getD 0 0≤s.1.getD 1 0)
def rok (s:Sp):Bool:=decide (0<s.2.length)&&decide (s.1.getD s.2.length 0≤s.1.getD (s.2.length-1) 0)
def cok (s:Sp) (i:Nat):Bool:=decide (0<i)&&decide (i<s.2.length)&&decide (s.1.getD i 0≤s.1.getD (i-1) 0)&&decide (s.1.getD i 0≤s.1.getD (i+1) 0)&&decide (s.2.getD (i-1) 0≠s.2.getD i 0)
def sok (s:Sp) (x:Int×Int):Bool:=
 if x.1=1 then decide (x.2=0)&&lok s else if x.1=2 then decide (x.2=0)&&rok s else if x.1=3 then decide (0≤x.2)&&cok s x.2.toNat else false
def joined (L:List Int) (i:Nat):Int:=L.getD (i-1) 0+L.getD (i+1) 0-L.getD i 0
def aftL (s:Sp):Sp:=(s.1.drop 1,s.2.drop 1)
def aftR (s:Sp):Sp:=(s.1.take s.2.length,s.2.take (s.2.length-1))
def aftC (s:Sp) (i:Nat):Sp:=(s.1.take (i-1)++([joined s.1 i]++s.1.drop (i+2)),s.2.take (i-1)++s.2.drop (i+1))
def aft (s:Sp) (x:Int×Int):Sp:=if x.1=1 then aftL s else if x.1=2 then aftR s else aftC s x.2.toNat
def Dec (s:Sp):Prop:=Valid s∧∀x∈s.2,x=1∨x=2
theorem contains_no {K:List Int} {v:Int} (h:v∉K) (hl:K.length≤10000):slices_Contains_api_Kind fuel (K,v)=some false:=by
 apply Ret.eq
 unfold slices_Contains_api_Kind
 dsimp only
 refine Ret_loop (Inv:=fun x:Int=>0≤x∧x≤K.length) (m:=fun x:Int=>((K.length:Int)-x).toNat) ?_ _ _ ⟨by omega,by omega⟩ (by simp only[fuel];omega)
 intro x rec ⟨i1,i2⟩ ih
 refine Ret_dec (fun hlt=>?_) fun hge=>Ret_some rfl
 refine Ret_chk (inb_t i1 hlt) (Ret_dec (fun he=>?_) fun _=>Ret_chk (i64b_t (by omega) (by omega)) (ih _ ⟨by omega,by omega⟩ (by omega)))
 exact absurd (by rw[show v=_ from he];exact getD_mem (by omega)) h
theorem decided_ok {s:Sp} (h:Dec s):ends_decided fuel s=some 0:=by
 unfold ends_decided
 rw[show(s.1,s.2)=s from rfl,strips_Check_valid h.1]
 have:slices_Contains_api_Kind fuel (s.2,3)=some false:=contains_no (fun hm=>by have:=h.2 _ hm;omega) (by have:=h.1;unfold Valid at this;omega)
 simp[this]
theorem left_ok {s:Sp} (h:Valid s) (i:Int):ends_left fuel (s,i)=some (sok s (1,i)):=by
 obtain⟨h1,h2,h3,h4⟩:=h
 simp only[ends_left,sok,if_true,lok]
 by_cases hi:i=0
 ·rw[decide_eq_true hi,cond_true,Bool.true_and]
  by_cases hk:0<s.2.length
  ·rw[decide_eq_true (show(0:Int)< (s.2.length:Int) by omega),cond_true,chk_t (inb_t (by omega) (by omega)),chk_t (inb_t (by omega) (by omega)),decide_eq_true hk,Bool.true_and]
  ·rw[decide_eq_false (show ¬(0:Int)< (s.2.length:Int) by omega),cond_false,decide_eq_false hk,Bool.false_and]
 ·rw[decide_eq_false hi,cond_false,Bool.false_and]
theorem right_ok {s:Sp} (h:Valid s) (i:Int):ends_right fuel (s,i)=some (sok s (2,i)):=by
 obtain⟨h1,h2,h3,h4⟩:=h
 simp only[ends_right,sok,rok,show ¬((2:Int)=1) by omega,if_false,if_true]
 by_cases hi:i=0
 ·rw[decide_eq_true hi,cond_true,Bool.true_and]
  by_cases hk:0<s.2.length
  ·rw[decide_eq_true (show(0:Int)< (s.2.length:Int) by omega),cond_true,chk_t (inb_t (by omega) (by omega)),chk_t (i64b_t (by omega) (by omega)),chk_t (inb_t (by omega) (by omega)),decide_eq_true hk,Bool.true_and,show((s.2.length:Int)-1).toNat=s.2.length-1 by omega]
  ·rw[decide_eq_false (show ¬(0:Int)< (s.2.length:Int) by omega),cond_false,decide_eq_false hk,Bool.false_and]
 ·rw[decide_eq_false hi,cond_false,Bool.false_and]
theorem crimp_ok {s:Sp} (h:Valid s) (i:Int):ends_crimp fuel (s,i)=some (sok s (3,i)):=by
 obtain⟨h1,h2,h3,h4⟩:=h
 simp only[ends_crimp,sok,cok,show ¬((3:Int)=1) by omega,show ¬((3:Int)=2) by omega,if_false,if_true]
 by_cases h0:0<i
 ·rw[decide_eq_true h0,cond_true,decide_eq_true (show 0≤i by omega),decide_eq_true (show 0<i.toNat by omega),Bool.true_and,Bool.true_and]
  by_cases hk:i<s.2.length
  ·rw[decide_eq_true hk,cond_true,decide_eq_true (show i.toNat<s.2.length by omega),Bool.true_and]
   rw[chk_t (inb_t (by omega) (by omega)),chk_t (i64b_t (by omega) (by omega)),chk_t (inb_t (by omega) (by omega)),chk_t (i64b_t (by omega) (by omega)),chk_t (inb_t (by omega) (by omega))]
   rw[show(i-1).toNat=i.toNat-1 by omega,show(i+1).toNat=i.toNat+1 by omega]
   by_cases hm:s.1.getD i.toNat 0≤min (s.1.getD (i.toNat-1) 0) (s.1.getD (i.toNat+1) 0)
   ·rw[decide_eq_true hm,cond_true,chk_t (i64b_t (by omega) (by omega)),chk_t (inb_t (by omega) (by omega)),chk_t (inb_t (by omega) (by omega)),decide_eq_true (show s.1.getD i.toNat 0≤s.1.getD (i.toNat-1) 0 by omega),decide_eq_true (show s.1.getD i.toNat 0≤s.1.getD (i.toNat+1) 0 by omega)]
    rfl
   ·rw[decide_eq_false hm,cond_false]
    by_cases ha:s.1.getD i.toNat 0≤s.1.getD (i.toNat-1) 0
    ·rw[decide_eq_false (show ¬s.1.getD i.toNat 0≤s.1.getD (i.toNat+1) 0 by omega),Bool.and_false,Bool.false_and]
    ·rw[decide_eq_false ha];rfl
  ·rw[decide_eq_false hk,cond_false,decide_eq_false (show ¬i.toNat<s.2.length by omega)];rfl
 ·rw[decide_eq_false h0,cond_false,decide_eq_false (show ¬0<i.toNat by omega)];simp
def rowS (j i:Nat):List (Int×Int):=(idL i).map fun x=>((j:Int)+1,x)
def preS (n:Nat):Nat→List (Int×Int)
 | 0=>[]
 | j+1=>preS n j++rowS j n
def stepsL (s:Sp):List (Int×Int):=(preS s.1.length 3).filter (sok s)
theorem rowS_snoc (j i:Nat):rowS j (i+1)=rowS j i++[((j:Int)+1,(i:Int))]:=by simp[rowS,idL_snoc]
theorem rowS_len (j i:Nat):(rowS j i).length=i:=by simp[rowS,idL_len]
theorem filter_one {α:Type} {f:α→Bool} {x:α}:[x].filter f=if f x then [x] else []:=by cases h:f x<;>simp[h]
theorem preS_len (n j:Nat):(preS n j).length=j*n:=by
 induction j with
 | zero=>simp[preS]
 | succ j ih=>simp[preS,ih,rowS_len,Nat.add_mul]
theorem steps_ok {s:Sp} (h:Valid s):ends_steps fuel s=some (stepsL s):=by
 have hl:=h.1
 apply Ret.eq
 unfold ends_steps
 refine Ret_loop (Inv:=fun x:List (Int×Int)×Int=>1≤x.2∧x.2≤4∧x.1=(preS s.1.length (x.2-1).toNat).filter (sok s)) (m:=fun x=>(4-x.2).toNat) ?_ _ _ ⟨by simp,by simp,rfl⟩ (by simp[fuel])
 rintro ⟨out,k⟩ rec ⟨i1,i2,i3⟩ ih
 simp only at i1 i2 i3 ⊢
 refine Ret_dec (fun hk=>?_) fun hk=>?_
 ·obtain⟨j,rfl⟩:∃j:Nat,k=(j:Int)+1:=⟨(k-1).toNat,by omega⟩
  rw[show(((j:Int)+1)-1).toNat=j by omega] at i3
  refine Ret_loop (Inv:=fun x:List (Int×Int)×Int=>0≤x.2∧x.2≤s.1.length∧x.1=(preS s.1.length j++rowS j x.2.toNat).filter (sok s)) (m:=fun x=>((s.1.length:Int)-x.2).toNat) ?_ _ _ ⟨by simp,by simp,by simp[i3,rowS,idL]⟩ (by simp only[fuel];omega)
  rintro ⟨o,i⟩ rec2 ⟨g1,g2,g3⟩ ih2
  simp only at g1 g2 g3 ⊢
  refine Ret_dec (fun hi=>?_) fun hi=>?_
  ·have hol:o.length≤10000:=by
    rw[g3];refine Nat.le_trans (List.length_filter_le ..) ?_
    rw[List.length_append,preS_len,rowS_len]
    have:j*s.1.length≤3*32:=Nat.mul_le_mul (by omega) hl
    omega
   have es:(preS s.1.length j++rowS j (i+1).toNat).filter (sok s)=if sok s ((j:Int)+1,i) then o++[((j:Int)+1,i)] else o:=by
    rw[show(i+1).toNat=i.toNat+1 by omega,rowS_snoc,←List.append_assoc,List.filter_append,←g3,filter_one,show((i.toNat:Nat):Int)=i by omega]
    split<;>simp
   have key:∀b:Bool,b=sok s ((j:Int)+1,i)→Ret (bif b then(chk (lenOk (o.length+1)) (chk (i64b (i+1)) (rec2 ((o++[((j:Int)+1,i)]),(i+1))))) else(chk (i64b (i+1)) (rec2 (o,(i+1))))) fun x=>x=stepsL s:=fun b hb=>by
    subst hb
    refine Ret_bif (fun h=>?_) fun h=>?_
    ·rw[if_pos h] at es
     exact Ret_chk (lenOk_t (by omega)) (Ret_chk (i64b_t (by omega) (by omega)) (ih2 _ ⟨by simp only;omega,by simp only;omega,es.symm⟩ (by simp only;omega)))
    ·rw[if_neg (by simp[h])] at es
     exact Ret_chk (i64b_t (by omega) (by omega)) (ih2 _ ⟨by simp only;omega,by simp only;omega,es.symm⟩ (by simp only;omega))
   rw[show(s.1,s.2)=s from rfl]
   refine Ret_dec (fun h3=>?_) fun h3=>Ret_dec (fun h2=>?_) fun h2=>Ret_dec (fun h1=>?_) fun h1=>by omega
   ·exact Ret_bind (Ret.of (crimp_ok h i)) fun r hr=>key r (by rw[hr,h3])
   ·exact Ret_bind (Ret.of (right_ok h i)) fun r hr=>key r (by rw[hr,h2])
   ·exact Ret_bind (Ret.of (left_ok h i)) fun r hr=>key r (by rw[hr,h1])
  ·rw[wrap_u8 (by omega) (by omega)]
   refine ih _ ⟨by simp only;omega,by simp only;omega,?_⟩ (by simp only;omega)
   simp only
   rw[g3,show i.toNat=s.1.length by omega,show(((j:Int)+1)+1-1).toNat=j+1 by omega]
   rfl
 ·rw[show(k-1).toNat=3 by omega] at i3
  have hol:out=stepsL s:=i3
  refine Ret_chk (by simp[bnb]) (Ret_chk (by simp[capIs]) (Ret_some ?_))
  rw[List.take_length,hol]
end X
end Go.Vm
namespace Go.Vm
namespace X
open W Go.Proofs.St
theorem own_ok {s:Sp} (h1:s.1.length≤1000) (h2:s.2.length≤1000):ends_own fuel s=some s:=by
 unfold ends_own
 rw[clone_int (by omega),clone_kind (by omega)]
 simp[bnb,capIs,chk]
theorem drop_take_all {L:List Int} {k:Nat}:(L.drop k).take (L.length-k)=L.drop k:=List.take_of_length_le (by simp)
theorem aftL_ok {s:Sp} (h:Valid s) (hk:0<s.2.length) (at_:Int):ends_done fuel (s,(1,at_))=some (aftL s):=by
 obtain⟨h1,h2,h3,h4⟩:=h
 unfold ends_done
 dsimp only
 rw[decide_eq_true rfl,cond_true,drop_take_all,drop_take_all,chk_t (by simp[bnb];omega),chk_t (by simp[bnb];omega),own_ok (by simp;omega) (by simp;omega)]
 simp[capIs,chk,aftL]
theorem aftR_ok {s:Sp} (h:Valid s) (hk:0<s.2.length) (at_:Int):ends_done fuel (s,(2,at_))=some (aftR s):=by
 obtain⟨h1,h2,h3,h4⟩:=h
 unfold ends_done
 dsimp only
 rw[decide_eq_false (by omega),cond_false,decide_eq_true rfl,cond_true,List.drop_zero,List.drop_zero,show((s.2.length:Int)-1).toNat=s.2.length-1 by omega]
 rw[chk_t (by simp[bnb];omega),chk_t (i64b_t (by omega) (by omega)),chk_t (by simp[bnb];omega),own_ok (by simp;omega) (by simp;omega)]
 simp[capIs,chk,aftR]
theorem flat_snoc {a:List (List Int)} {i:Nat} (h:i<a.length):(a.take (i+1)).flatten=(a.take i).flatten++a.getD i []:=by
 rw[List.take_add_one,List.flatten_append,List.getD,List.getElem?_eq_getElem h];simp
theorem flat_len2 {a:List (List Int)} {i:Nat}:(a.take i).flatten.length≤a.flatten.length:=by
 conv=>rhs;rw[←List.take_append_drop i a,List.flatten_append,List.length_append]
 omega
theorem cat_loop {a:List (List Int)} (ha:a.length≤1000) (hf:a.flatten.length≤10000) {g:Option (List Int)} (hg:g=some []) {gr:Unit×Int→Option (List Int)} (hgr:∀n:Int,0≤n→n≤10000→gr ((),n)=some []):
  loopF (fun(rec1:Int×Int→Option (List Int)) (x1:(Int×Int))=>bif(decide (x1.2< ((a.length:Nat):Int))) then(chk (inb x1.2 a.length) (chk (i64b (x1.1+ (((a.getD x1.2.toNat []).length:Nat):Int))) (bif(decide ((x1.1+ (((a.getD x1.2.toNat []).length:Nat):Int))<0)) then(none) else(chk (i64b (x1.2+1)) (rec1 ((x1.1+ (((a.getD x1.2.toNat []).length:Nat):Int)),(x1.2+1))))))) else((gr ((),x1.1)).bind fun r2=>loopF (fun(rec3:List Int×Int→Option (List Int)) (x3:((List Int)×Int))=>bif(decide (x3.2< ((a.length:Nat):Int))) then(chk (inb x3.2 a.length) (chk (lenOk (x3.1.length+ (a.getD x3.2.toNat []).length)) (chk (i64b (x3.2+1)) (rec3 ((x3.1++(a.getD x3.2.toNat [])),(x3.2+1)))))) else(some x3.1)) fuel (r2,0))) fuel (0,0)=some a.flatten:=by
 apply Ret.eq
 refine Ret_loop (Inv:=fun x:Int×Int=>0≤x.2∧x.2≤a.length∧x.1=(a.take x.2.toNat).flatten.length) (m:=fun x=>((a.length:Int)-x.2).toNat) ?_ _ _ ⟨by simp,by simp,by simp⟩ (by simp only[fuel];omega)
 rintro ⟨n,i⟩ rec ⟨i1,i2,i3⟩ ih
 simp only at i1 i2 i3 ⊢
 have l0:=flat_len2 (a:=a) (i:=i.toNat)
 refine Ret_dec (fun hlt=>?_) fun hge=>?_
 ·have l1:=flat_len2 (a:=a) (i:=i.toNat+1)
  have es:=flat_snoc (a:=a) (i:=i.toNat) (by omega)
  rw[es,List.length_append] at l1
  refine Ret_chk (inb_t i1 hlt) (Ret_chk (i64b_t (by omega) (by omega)) (Ret_dec (fun h=>absurd h (by omega)) fun _=>Ret_chk (i64b_t (by omega) (by omega)) (ih _ ⟨by simp only;omega,by simp only;omega,?_⟩ (by simp only;omega))))
  simp only
  rw[show(i+1).toNat=i.toNat+1 by omega,es,List.length_append];omega
 ·refine Ret_bind (Ret.of (hgr n (by omega) (by omega))) fun r hr=>?_
  subst hr
  refine Ret_loop (Inv:=fun x:List Int×Int=>0≤x.2∧x.2≤a.length∧x.1=(a.take x.2.toNat).flatten) (m:=fun x=>((a.length:Int)-x.2).toNat) ?_ _ _ ⟨by simp,by simp,by simp⟩ (by simp only[fuel];omega)
  rintro ⟨o,i⟩ rec ⟨i1,i2,i3⟩ ih
  simp only at i1 i2 i3 ⊢
  subst i3
  refine Ret_dec (fun hlt=>?_) fun hge=>Ret_some (by rw[List.take_of_length_le (by omega)])
  have l1:=flat_len2 (a:=a) (i:=i.toNat+1)
  have es:=flat_snoc (a:=a) (i:=i.toNat) (by omega)
  rw[es,List.length_append] at l1
  refine Ret_chk (inb_t i1 hlt) (Ret_chk (lenOk_t (by omega)) (Ret_chk (i64b_t (by omega) (by omega)) (ih _ ⟨by simp only;omega,by simp only;omega,?_⟩ (by simp only;omega))))
  simp only
  rw[show(i+1).toNat=i.toNat+1 by omega,es]
theorem concat_int {a:List (List Int)} (ha:a.length≤1000) (hf:a.flatten.length≤10000):slices_Concat_int fuel a=some a.flatten:=by
 unfold slices_Concat_int
 exact cat_loop ha hf rfl fun n h1 h2=>by unfold slices_Grow_int;rw[inb_t h1 (by omega)];rfl
theorem concat_kind {a:List (List Int)} (ha:a.length≤1000) (hf:a.flatten.length≤10000):slices_Concat_api_Kind fuel a=some a.flatten:=by
 unfold slices_Concat_api_Kind
 exact cat_loop ha hf rfl fun n h1 h2=>by unfold slices_Grow_api_Kind;rw[inb_t h1 (by omega)];rfl
theorem aftC_ok {s:Sp} (h:Valid s) {i:Int} (h0:0<i) (hk:i<s.2.length) {k:Int} (k1:k≠1) (k2:k≠2):ends_done fuel (s,(k,i))=some (aftC s i.toNat):=by
 obtain⟨h1,h2,h3,h4⟩:=h
 obtain⟨i,rfl⟩:=Int.eq_ofNat_of_zero_le (show 0≤i by omega)
 have g:=fun j (hj:j<s.1.length)=>h3 _ (getD_mem (L:=s.1) (i:=j) hj)
 have g1:=g i (by omega)
 have g2:=g (i-1) (by omega)
 have g3:=g (i+1) (by omega)
 unfold ends_done
 dsimp only
 rw[decide_eq_false k1,cond_false,decide_eq_false k2,cond_false]
 simp only[Int.toNat_natCast,show((i:Int)-1).toNat=i-1 by omega,show((i:Int)+1).toNat=i+1 by omega,show((i:Int)+2).toNat=i+2 by omega,List.drop_zero,drop_take_all]
 rw[chk_t (i64b_t (by omega) (by omega)),chk_t (inb_t (by omega) (by omega)),chk_t (i64b_t (by omega) (by omega)),chk_t (inb_t (by omega) (by omega)),chk_t (i64b_t (by omega) (by omega)),chk_t (inb_t (by omega) (by omega)),chk_t (i64b_t (by omega) (by omega)),chk_t (i64b_t (by omega) (by omega)),
  chk_t (by simp[bnb];omega),chk_t (i64b_t (by omega) (by omega)),chk_t (by simp[bnb];omega)]
 rw[concat_int (by simp) (by simp;omega)]
 simp only[Option.bind_some]
 rw[chk_t (i64b_t (by omega) (by omega)),chk_t (by simp[bnb];omega),chk_t (i64b_t (by omega) (by omega)),chk_t (by simp[bnb];omega)]
 rw[concat_kind (by simp) (by simp;omega)]
 simp only[Option.bind_some]
 rw[own_ok (by simp;omega) (by simp;omega)]
 simp[capIs,chk,aftC,joined]
theorem sok_bound {s:Sp} {x:Int×Int} (h:sok s x=true):0<s.2.length∧(x.1=1∨x.1=2∨(x.1=3∧0<x.2∧x.2<s.2.length)):=by
 unfold sok at h
 by_cases h1:x.1=1
 ·rw[if_pos h1] at h;simp[lok] at h;exact⟨h.2.1,.inl h1⟩
 rw[if_neg h1] at h
 by_cases h2:x.1=2
 ·rw[if_pos h2] at h;simp[rok] at h;exact⟨h.2.1,.inr (.inl h2)⟩
 rw[if_neg h2] at h
 by_cases h3:x.1=3
 ·rw[if_pos h3] at h;simp[cok] at h;exact⟨by omega,.inr (.inr ⟨h3,by omega,by omega⟩)⟩
 ·rw[if_neg h3] at h;cases h
theorem done_ok {s:Sp} (h:Valid s) {x:Int×Int} (hx:sok s x=true):ends_done fuel (s,x)=some (aft s x):=by
 obtain⟨k,at_⟩:=x
 obtain⟨hk,h1 | h1 | ⟨h1,h2,h3⟩⟩:=sok_bound hx
 ·simp only at h1;subst h1;rw[aftL_ok h hk];rfl
 ·simp only at h1;subst h1;rw[aftR_ok h hk];rfl
 ·simp only at h1;subst h1;rw[aftC_ok h h2 h3 (by omega) (by omega)];rfl
end X
end Go.Vm
namespace Go.Vm
namespace X
open W Go.Proofs.St
def wgt (x:Int):Int:=max 7 (2*x-9)
def wSum:List Int→Int
 | []=>0
 | x::l=>wgt x+wSum l
theorem wgt_pos (x:Int):7≤wgt x:=by unfold wgt;omega
theorem wSum_nn:∀l:List Int,0≤wSum l
 | []=>by simp[wSum]
 | x::l=>by have:=wSum_nn l;have:=wgt_pos x;simp only[wSum];omega
theorem wSum_append:∀l m:List Int,wSum (l++m)=wSum l+wSum m
 | [],m=>by simp[wSum]
 | x::l,m=>by simp only[List.cons_append,wSum,wSum_append l m];omega
theorem wSum_mem:∀ {l:List Int} {x:Int},x∈l→wgt x≤wSum l
 | y::l,x,h=>by
   simp only[wSum]
   rcases List.mem_cons.1 h with h | h
   ·subst h;have:=wSum_nn l;omega
   ·have:=wSum_mem h;have:=wgt_pos y;omega
theorem wSum_take (l:List Int) (n:Nat):wSum (l.take n)≤wSum l:=by
 have:=wSum_append (l.take n) (l.drop n);rw[List.take_append_drop] at this;have:=wSum_nn (l.drop n);omega
theorem wSum_drop (l:List Int) (n:Nat):wSum (l.drop n)≤wSum l:=by
 have:=wSum_append (l.take n) (l.drop n);rw[List.take_append_drop] at this;have:=wSum_nn (l.take n);omega
def Good (s:Sp):Prop:=Dec s∧wSum s.1≤84
theorem three {L:List Int} {i:Nat} (h0:0<i) (h:i+1<L.length):L=L.take (i-1)++(L.getD (i-1) 0::L.getD i 0::L.getD (i+1) 0::L.drop (i+2)):=by
 obtain⟨k,rfl⟩:∃k,i=k+1:=⟨i-1,by omega⟩
 have g:∀j,j<L.length→L.drop j=L.getD j 0::L.drop (j+1):=fun j hj=>by
  rw[List.drop_eq_getElem_cons hj,List.getD,List.getElem?_eq_getElem hj];rfl
 rw[Nat.add_sub_cancel,←g (k+2) (by omega),←g (k+1) (by omega),←g k (by omega),List.take_append_drop]
theorem wSum_joined {L:List Int} {i:Nat} (hL:∀x∈L,1≤x) (h0:0<i) (h:i+1<L.length):wSum (L.take (i-1)++([joined L i]++L.drop (i+2)))≤wSum L:=by
 have e:=congrArg wSum (three h0 h)
 simp only[wSum_append,wSum] at e ⊢
 have:=hL _ (getD_mem (L:=L) (i:=i) (by omega))
 unfold joined
 unfold wgt at *
 omega
theorem Good.bd {L:List Int} (h:wSum L≤84) {x:Int} (hx:x∈L):x≤64:=by
 have:=wSum_mem hx;unfold wgt at this;omega
theorem aft_good {s:Sp} (h:Good s) {x:Int×Int} (hx:sok s x=true):Good (aft s x):=by
 obtain⟨⟨⟨h1,h2,h3,h4⟩,h5⟩,h6⟩:=h
 obtain⟨k,at_⟩:=x
 obtain⟨hk,g | g | ⟨g,g2,g3⟩⟩:=sok_bound hx
 ·simp only at g;subst g
  refine⟨⟨⟨?_,?_,fun x hx=>h3 x (List.mem_of_mem_drop hx),fun x hx=>h4 x (List.mem_of_mem_drop hx)⟩,fun x hx=>h5 x (List.mem_of_mem_drop hx)⟩,Int.le_trans (wSum_drop ..) h6⟩
  all_goals (simp only[aft,if_true,aftL,List.length_drop];omega)
 ·simp only at g;subst g
  refine⟨⟨⟨?_,?_,fun x hx=>h3 x (List.mem_of_mem_take hx),fun x hx=>h4 x (List.mem_of_mem_take hx)⟩,fun x hx=>h5 x (List.mem_of_mem_take hx)⟩,Int.le_trans (wSum_take ..) h6⟩
  all_goals (simp only[aft,if_true,aftR,List.length_take,show ¬((2:Int)=1) by omega,if_false];omega)
 ·simp only at g g2 g3;subst g
  obtain⟨i,rfl⟩:=Int.eq_ofNat_of_zero_le (show 0≤at_ by omega)
  have e:aft s (3,(i:Int))=aftC s i:=by simp[aft]
  have hw:wSum (aftC s i).1≤84:=Int.le_trans (wSum_joined (fun x hx=>(h3 x hx).1) (by omega) (by omega)) h6
  have hok:cok s i=true:=by simpa[sok] using hx
  have hj:1≤joined s.1 i:=by
   simp only[cok,Bool.and_eq_true,decide_eq_true_eq] at hok
   have:=(h3 _ (getD_mem (L:=s.1) (i:=i-1) (by omega))).1
   unfold joined;omega
  have mk:∀x∈(aftC s i).2,x∈s.2:=fun x hx=>by
   rcases List.mem_append.1 hx with h | h
   ·exact List.mem_of_mem_take h
   ·exact List.mem_of_mem_drop h
  rw[e]
  refine⟨⟨⟨?_,?_,fun x hx=>⟨?_,Good.bd hw hx⟩,fun x hx=>h4 x (mk x hx)⟩,fun x hx=>h5 x (mk x hx)⟩,hw⟩
  ·simp only[aftC,List.length_append,List.length_take,List.length_drop,List.length_singleton];omega
  ·simp only[aftC,List.length_append,List.length_take,List.length_drop,List.length_singleton];omega
  ·rcases List.mem_append.1 hx with h | h
   ·exact(h3 x (List.mem_of_mem_take h)).1
   rcases List.mem_append.1 h with h | h
   ·rw[List.mem_singleton.1 h];exact hj
   ·exact(h3 x (List.mem_of_mem_drop h)).1
end X
end Go.Vm
namespace Go.Vm
namespace X
open W Go.Proofs.St
theorem wSum_small:∀ {l:List Int},(∀x∈l,x≤8)→wSum l≤7*l.length
 | [],_=>by simp[wSum]
 | x::l,h=>by
   have h1:=h x (List.mem_cons_self ..)
   have h2:=wSum_small fun y hy=>h y (List.mem_cons_of_mem _ hy)
   simp only[wSum,List.length_cons,wgt];omega
def Good0 (s:Sp):Prop:=Good s∧s.1.length≤12∧∀x∈s.1,1≤x∧x≤8
theorem eta {α β:Type} (x:α×β):(x.1,x.2)=x:=rfl
def foldN:Nat→Sp→List (Int×Int)×Sp
 | 0,s=>([],s)
 | m+1,s=>match stepsL s with
   | []=>([],s)
   | x::_=>(x::(foldN m (aft s x)).1,(foldN m (aft s x)).2)
def foldS (s:Sp):List (Int×Int)×Sp:=foldN s.2.length s
theorem sok_of_mem {s:Sp} {x:Int×Int} (h:x∈stepsL s):sok s x=true:=(List.mem_filter.1 h).2
theorem sok_of_cons {s:Sp} {x:Int×Int} {t:List (Int×Int)} (h:stepsL s=x::t):sok s x=true:=sok_of_mem (by rw[h];exact List.mem_cons_self ..)
theorem stepsL_nil {s:Sp} (h:s.2.length=0):stepsL s=[]:=by
 cases e:stepsL s with
 | nil=>rfl
 | cons x t=>have:=(sok_bound (sok_of_cons e)).1;omega
theorem aft_less {s:Sp} {x:Int×Int} (hx:sok s x=true):(aft s x).2.length<s.2.length:=by
 obtain⟨hk,h | h | ⟨h,h2,h3⟩⟩:=sok_bound hx
 ·rw[aft,if_pos h];simp only[aftL,List.length_drop];omega
 ·rw[aft,if_neg (by omega),if_pos h];simp only[aftR,List.length_take];omega
 ·rw[aft,if_neg (by omega),if_neg (by omega)];simp only[aftC,List.length_append,List.length_take,List.length_drop];omega
theorem foldN_ge:∀ {m n:Nat} {s:Sp},s.2.length≤m→s.2.length≤n→foldN m s=foldN n s
 | 0,0,s,_,_=>rfl
 | 0,n+1,s,h,_=>by simp only[foldN];rw[stepsL_nil (by omega)]
 | m+1,0,s,_,h=>by simp only[foldN];rw[stepsL_nil (by omega)]
 | m+1,n+1,s,h1,h2=>by
   simp only[foldN]
   cases e:stepsL s with
   | nil=>rfl
   | cons x t=>
     have:=aft_less (sok_of_cons e)
     simp only
     rw[foldN_ge (m:=m) (n:=n) (by omega) (by omega)]
theorem foldS_nil {s:Sp} (h:stepsL s=[]):foldS s=([],s):=by
 unfold foldS
 cases s.2.length with
 | zero=>rfl
 | succ n=>simp only[foldN];rw[h]
theorem foldS_cons {s:Sp} {x:Int×Int} {t:List (Int×Int)} (h:stepsL s=x::t):foldS s=(x::(foldS (aft s x)).1,(foldS (aft s x)).2):=by
 have h1:=aft_less (sok_of_cons h)
 have h2:foldS s=foldN ((aft s x).2.length+1+ (s.2.length-(aft s x).2.length-1)) s:=by unfold foldS;congr 1;omega
 rw[h2,show(aft s x).2.length+1+ (s.2.length-(aft s x).2.length-1)=(s.2.length-1)+1 by omega]
 simp only[foldN,h]
 rw[foldN_ge (m:=s.2.length-1) (n:=(aft s x).2.length) (by omega) (by omega)]
 rfl
theorem fold_ind {P:Sp→Prop} (h0:∀s,stepsL s=[]→P s) (h1:∀s x t,stepsL s=x::t→P (aft s x)→P s):∀s,P s:=by
 have:∀n s,s.2.length≤n→P s:=fun n=>by
  induction n with
  | zero=>intro s hs;exact h0 s (stepsL_nil (by omega))
  | succ n ih=>
    intro s hs
    cases e:stepsL s with
    | nil=>exact h0 s e
    | cons x t=>exact h1 s x t e (ih _ (by have:=aft_less (sok_of_cons e);omega))
 exact fun s=>this _ s (Nat.le_refl _)
theorem Good.val {s:Sp} (h:Good s):Valid s:=h.1.1
theorem Good.len {s:Sp} (h:Good s):s.1.length=s.2.length+1∧s.2.length≤31:=by have:=h.1.1;unfold Valid at this;omega
theorem Fold_ok {s:Sp} (h:Good s):ends_Fold fuel s=some ((foldS s).1,((foldS s).2,0)):=by
 unfold ends_Fold
 rw[show(s.1,s.2)=s from rfl,decided_ok h.1]
 simp only[Option.bind_some,ne_eq,not_true_eq_false,decide_false,cond_false]
 rw[own_ok (by have:=h.len;omega) (by have:=h.len;omega)]
 simp only[Option.bind_some]
 rw[show(s.1,s.2)=s from rfl,steps_ok h.val]
 simp only[Option.bind_some]
 apply Ret.eq
 refine Ret_loop (Inv:=fun x=>Good (x.2.2.1.1,x.2.2.2.1)∧x.2.1.1=stepsL (x.2.2.1.1,x.2.2.2.1)∧x.2.1.2=x.2.1.1.length∧x.2.2.1.2=x.2.2.1.1.length∧x.2.2.2.2=x.2.2.2.1.length∧x.1.length+x.2.2.2.1.length≤40∧foldS s=(x.1++(foldS (x.2.2.1.1,x.2.2.2.1)).1,(foldS (x.2.2.1.1,x.2.2.2.1)).2)) (m:=fun x=>x.2.2.2.1.length) ?_ _ _ ⟨h,rfl,rfl,rfl,rfl,by have:=h.len;simp;omega,by simp⟩ (by have:=h.len;simp only[fuel];omega)
 rintro ⟨out,⟨⟨l,c⟩,⟨⟨L,n⟩,⟨K,k⟩⟩⟩⟩ rec ⟨g1,g2,g3,g4,g5,g6,g7⟩ ih
 simp only at g1 g2 g3 g4 g5 g6 g7 ⊢
 subst g3 g4 g5
 simp only[eta]
 cases e:stepsL (L,K) with
 | nil=>
   rw[e] at g2
   subst g2
   rw[foldS_nil e,List.append_nil] at g7
   refine Ret_dec (fun hl=>by simp at hl) fun _=>Ret_chk (by simp[bnb]) (Ret_chk (by simp[capIs]) (Ret_some ?_))
   rw[g7,List.take_length]
 | cons x t=>
   rw[e] at g2
   subst g2
   rw[foldS_cons e] at g7
   have ha:=aft_good g1 (sok_of_cons e)
   have hl:=aft_less (sok_of_cons e)
   simp only at hl
   refine Ret_dec (fun _=>?_) fun hl=>absurd (show(0:Int)< ((x::t).length:Nat) by simp only[List.length_cons];omega) hl
   refine Ret_chk (inb_t (by omega) (by simp only[List.length_cons];omega)) (Ret_chk (lenOk_t (by omega)) (Ret_chk (inb_t (by omega) (by simp only[List.length_cons];omega)) ?_))
   rw[List.getD_cons_zero]
   refine Ret_bind (Ret.of (done_ok g1.val (sok_of_cons e))) fun r hr=>?_
   subst hr
   refine Ret_bind (Ret.of (steps_ok ha.val)) fun r6 hr=>?_
   subst hr
   refine ih _ ⟨ha,rfl,rfl,rfl,rfl,?_,?_⟩ (by simp only;omega)
   ·simp only[List.length_append,List.length_singleton];omega
   ·simp only;rw[g7,List.append_assoc];rfl
theorem Folds_ok {s:Sp} (h:Good s):ends_Folds fuel s=some (decide ((foldS s).2.2.length=0),0):=by
 unfold ends_Folds
 rw[show(s.1,s.2)=s from rfl,Fold_ok h]
 simp
theorem preS_split {n j i:Nat} (hj:j<3) (hi:i<n):∃rest,preS n 3=(preS n j++rowS j i)++(((j:Int)+1,(i:Int))::rest):=by
 have hr:∀k,i+k≤n→∃rest,rowS j (i+k)=rowS j i++rest:=fun k=>by
  induction k with
  | zero=>intro _;exact⟨[],by simp⟩
  | succ k ih=>intro h;obtain⟨r,e⟩:=ih (by omega);exact⟨r++[((j:Int)+1,((i+k:Nat):Int))],by rw[←Nat.add_assoc,rowS_snoc,e,List.append_assoc]⟩
 have hr2:∃rest,rowS j n=rowS j i++(((j:Int)+1,(i:Int))::rest):=by
  obtain⟨k,rfl⟩:∃k,n=i+1+k:=⟨n-i-1,by omega⟩
  have:∀k,∃rest,rowS j (i+1+k)=rowS j i++(((j:Int)+1,(i:Int))::rest):=fun k=>by
   induction k with
   | zero=>exact⟨[],by rw[Nat.add_zero,rowS_snoc]⟩
   | succ k ih=>obtain⟨r,e⟩:=ih;exact⟨r++[((j:Int)+1,((i+1+k:Nat):Int))],by rw[←Nat.add_assoc,rowS_snoc,e,List.append_assoc,List.cons_append]⟩
  exact this k
 obtain⟨rest,e⟩:=hr2
 match j,hj with
 | 0,_=>exact⟨rest++rowS 1 n++rowS 2 n,by simp only[preS,List.nil_append,e,List.append_assoc,List.cons_append]⟩
 | 1,_=>exact⟨rest++rowS 2 n,by simp only[preS,List.nil_append,e,List.append_assoc,List.cons_append]⟩
 | 2,_=>exact⟨rest,by simp only[preS,List.nil_append,e,List.append_assoc,List.cons_append]⟩
end X
end Go.Vm
namespace Go.Vm
namespace X
open W Go.Proofs.St
def cntL (p:List Int) (k d:Int):List Int:=p.map fun x=>if k≤x then x+d else x
def abv (s:Sp) (c:Nat):Bool:=decide (s.2.getD c 0=2)==decide (c%2=0)
end X
end Go.Vm
namespace Go.Vm
namespace X
open W Go.Proofs.St
def OrdP (n:Nat) (p:List Int):Prop:=p.Perm (idL n)
theorem OrdP.len {n:Nat} {p:List Int} (h:OrdP n p):p.length=n:=by rw[List.Perm.length_eq h,idL_len]
theorem OrdP.in {n:Nat} {p:List Int} (h:OrdP n p):∀x∈p,0≤x∧x<n:=fun x hx=>mem_idL.1 ((List.Perm.mem_iff h).1 hx)
theorem OrdP.mem {n:Nat} {p:List Int} (h:OrdP n p) {x:Int} (h0:0≤x) (h1:x<n):x∈p:=(List.Perm.mem_iff h).2 (mem_idL.2 ⟨h0,h1⟩)
def undoL (s:Sp) (x:Int×Int) (p:List Int):List Int:=
 if x.1=1 then insL (cntL p 0 1).reverse ((cntL p 0 1).reverse.idxOf 1+if abv s 0 then 0 else 1) ((cntL p 0 1).reverse.idxOf 1+if abv s 0 then 0 else 1) [0]
 else if x.1=2 then insL p (p.idxOf ((s.2.length:Int)-1)+if abv s (s.2.length-1) then 1 else 0) (p.idxOf ((s.2.length:Int)-1)+if abv s (s.2.length-1) then 1 else 0) [(s.2.length:Int)]
 else insL (cntL p x.2 2) (p.idxOf (x.2-1)) (p.idxOf (x.2-1)+1) (if abv s (x.2.toNat-1) then [x.2-1,x.2,x.2+1] else [x.2+1,x.2,x.2-1])
end X
end Go.Vm
namespace Go.Vm
namespace X
open W Go.Proofs.St
theorem insL_len {L V:List Int} {i k:Nat} (hi:i≤L.length) (hk:k≤L.length):(insL L i k V).length=i+V.length+ (L.length-k):=by
 simp only[insL,List.length_append,List.length_take,List.length_drop];omega
theorem mem_insL {L V:List Int} {i:Nat} {x:Int} (h:x∈V∨x∈L):x∈insL L i i V:=by
 unfold insL
 rcases h with h | h
 ·exact List.mem_append.2 (.inl (List.mem_append.2 (.inr h)))
 ·rw[←List.take_append_drop i L] at h
  rcases List.mem_append.1 h with h | h
  ·exact List.mem_append.2 (.inl (List.mem_append.2 (.inl h)))
  ·exact List.mem_append.2 (.inr h)
theorem at_idx {p:List Int} {v:Int} (h:v∈p):p=p.take (p.idxOf v)++v::p.drop (p.idxOf v+1):=by
 have hlt:=List.idxOf_lt_length_iff.2 h
 have e:p[p.idxOf v]=v:=List.getElem_idxOf hlt
 conv=>lhs;rw[←List.take_append_drop (p.idxOf v) p,List.drop_eq_getElem_cons hlt,e]
theorem undo_ord {s:Sp} (hs:Good s) {x:Int×Int} (hx:sok s x=true) {p:List Int} (hp:OrdP (aft s x).1.length p):OrdP s.1.length (undoL s x p):=by
 obtain⟨k,at_⟩:=x
 have hl:=hs.len
 have pl:=hp.len
 obtain⟨hk,g | g | ⟨g,g2,g3⟩⟩:=sok_bound hx
 ·simp only at g;subst g
  have e:(aft s (1,at_)).1.length=s.2.length:=by simp only[aft,if_true,aftL,List.length_drop];omega
  rw[e] at hp pl
  have m1:(1:Int)∈(cntL p 0 1).reverse:=by
   rw[List.mem_reverse]
   exact List.mem_map.2 ⟨0,hp.mem (by omega) (by omega),by simp⟩
  have il:=List.idxOf_lt_length_iff.2 m1
  have rl:(cntL p 0 1).reverse.length=s.2.length:=by simp[cntL,pl]
  refine ord_of ?_ fun i hi=>?_
  ·simp only[undoL,if_true]
   rw[insL_len (by split<;>omega) (by split<;>omega)]
   simp only[List.length_singleton];split<;>omega
  ·simp only[undoL,if_true]
   refine mem_insL ?_
   by_cases h0:i=0
   ·left;simp[h0]
   ·right
    rw[List.mem_reverse]
    exact List.mem_map.2 ⟨(i:Int)-1,hp.mem (by omega) (by omega),by rw[if_pos (by omega)];omega⟩
 ·simp only at g;subst g
  have e:(aft s (2,at_)).1.length=s.2.length:=by simp only[aft,if_true,aftR,List.length_take,show ¬((2:Int)=1) by omega,if_false];omega
  rw[e] at hp pl
  have m1:((s.2.length:Int)-1)∈p:=hp.mem (by omega) (by omega)
  have il:=List.idxOf_lt_length_iff.2 m1
  refine ord_of ?_ fun i hi=>?_
  ·simp only[undoL,if_true,show ¬((2:Int)=1) by omega,if_false]
   rw[insL_len (by split<;>omega) (by split<;>omega)]
   simp only[List.length_singleton];split<;>omega
  ·simp only[undoL,if_true,show ¬((2:Int)=1) by omega,if_false]
   refine mem_insL ?_
   by_cases h0:i=s.2.length
   ·left;simp[h0]
   ·right;exact hp.mem (by omega) (by omega)
 ·simp only at g g2 g3;subst g
  obtain⟨c,rfl⟩:∃c:Nat,at_=(c:Int)+1:=⟨(at_-1).toNat,by omega⟩
  have e:(aft s (3,(c:Int)+1)).1.length=s.1.length-2:=by
   have:((c:Int)+1).toNat=c+1:=by omega
   simp only[aft,show ¬((3:Int)=1) by omega,show ¬((3:Int)=2) by omega,if_false,this,aftC,List.length_append,List.length_take,List.length_drop,List.length_singleton,Nat.add_sub_cancel];omega
  rw[e] at hp pl
  have e1:(c:Int)+1-1=c:=by omega
  have m1:(c:Int)∈p:=hp.mem (by omega) (by omega)
  have il:=List.idxOf_lt_length_iff.2 m1
  have cl:(cntL p ((c:Int)+1) 2).length=p.length:=by simp[cntL]
  have ea:=at_idx m1
  have hV:∀b:Bool,(if b then [(c:Int),(c:Int)+1,(c:Int)+1+1] else [(c:Int)+1+1,(c:Int)+1,(c:Int)]).length=3:=fun b=>by cases b<;>rfl
  simp only[undoL,show ¬((3:Int)=1) by omega,show ¬((3:Int)=2) by omega,if_false,e1]
  refine ord_of ?_ fun i hi=>?_
  ·rw[insL_len (by omega) (by omega),hV];omega
  ·unfold insL
   by_cases hV2:i=c∨i=c+1∨i=c+2
   ·refine List.mem_append.2 (.inl (List.mem_append.2 (.inr ?_)))
    split<;>simp<;>omega
   ·have:∃y∈p,y≠(c:Int)∧(if(c:Int)+1≤y then y+2 else y)=(i:Int):=by
     by_cases h:i<c
     ·exact⟨i,hp.mem (by omega) (by omega),by omega,by rw[if_neg (by omega)]⟩
     ·exact⟨(i:Int)-2,hp.mem (by omega) (by omega),by omega,by rw[if_pos (by omega)];omega⟩
    obtain⟨y,hy,hyc,hyi⟩:=this
    rw[ea] at hy
    unfold cntL
    rw[←List.map_take,←List.map_drop]
    rcases List.mem_append.1 hy with hy | hy
    ·exact List.mem_append.2 (.inl (List.mem_append.2 (.inl (List.mem_map.2 ⟨y,hy,hyi⟩))))
    ·rcases List.mem_cons.1 hy with hy | hy
     ·exact absurd hy hyc
     ·exact List.mem_append.2 (.inr (List.mem_map.2 ⟨y,hy,hyi⟩))
end X
end Go.Vm
namespace Go.Vm
namespace X
open W Go.Proofs.St
def pileN:Nat→Sp→List Int
 | 0,_=>[0]
 | m+1,s=>match stepsL s with
   | []=>[0]
   | x::_=>undoL s x (pileN m (aft s x))
def pileS (s:Sp):List Int:=pileN s.2.length s
theorem pileN_ge:∀ {m n:Nat} {s:Sp},s.2.length≤m→s.2.length≤n→pileN m s=pileN n s
 | 0,0,s,_,_=>rfl
 | 0,n+1,s,h,_=>by simp only[pileN];rw[stepsL_nil (by omega)]
 | m+1,0,s,_,h=>by simp only[pileN];rw[stepsL_nil (by omega)]
 | m+1,n+1,s,h1,h2=>by
   simp only[pileN]
   cases e:stepsL s with
   | nil=>rfl
   | cons x t=>
     have:=aft_less (sok_of_cons e)
     simp only
     rw[pileN_ge (m:=m) (n:=n) (by omega) (by omega)]
theorem pileS_nil {s:Sp} (h:stepsL s=[]):pileS s=[0]:=by
 unfold pileS
 cases s.2.length with
 | zero=>rfl
 | succ n=>simp only[pileN];rw[h]
theorem pileS_cons {s:Sp} {x:Int×Int} {t:List (Int×Int)} (h:stepsL s=x::t):pileS s=undoL s x (pileS (aft s x)):=by
 have h1:=aft_less (sok_of_cons h)
 have h2:pileS s=pileN ((s.2.length-1)+1) s:=by unfold pileS;congr 1;omega
 rw[h2]
 simp only[pileN,h]
 rw[pileN_ge (m:=s.2.length-1) (n:=(aft s x).2.length) (by omega) (by omega)]
 rfl
def Done (s:Sp):Prop:=(foldS s).2.2.length=0
theorem Done.cons {s:Sp} (h:Done s) {x:Int×Int} {t:List (Int×Int)} (e:stepsL s=x::t):Done (aft s x):=by
 unfold Done at h ⊢
 rw[foldS_cons e] at h;exact h
theorem pile_ord {s:Sp} (hs:Good s) (hd:Done s):OrdP s.1.length (pileS s):=by
 revert hs hd
 refine fold_ind (P:=fun s=>Good s→Done s→OrdP s.1.length (pileS s)) ?_ ?_ s
 ·intro s e hs hd
  unfold Done at hd
  rw[foldS_nil e] at hd
  rw[pileS_nil e,show s.1.length=1 by have:=hs.len;simp only at hd;omega]
  exact List.Perm.refl _
 ·intro s x t e ih hs hd
  have hx:=sok_of_cons e
  rw[pileS_cons e]
  exact undo_ord hs hx (ih (aft_good hs hx) (hd.cons e))
end X
end Go.Vm
namespace Go.Vm
namespace X
open W Go.Proofs.St
theorem flat_id {g:Int→List Int}:∀ {A:List Int},(∀x∈A,g x=[x])→A.flatMap g=A
 | [],_=>rfl
 | a::A,h=>by
   rw[List.flatMap_cons,h a (List.mem_cons_self ..),flat_id fun x hx=>h x (List.mem_cons_of_mem _ hx)];rfl
theorem flat_at {g:Int→List Int} {p:List Int} {v:Int} (hn:p.Nodup) (hv:v∈p) (hg:∀x,x≠v→g x=[x]):p.flatMap g=p.take (p.idxOf v)++g v++p.drop (p.idxOf v+1):=by
 have e:=at_idx hv
 have hn':=hn
 rw[e] at hn'
 rw[List.nodup_append] at hn'
 obtain⟨h1,h2,h3⟩:=hn'
 have hB:=(List.nodup_cons.1 h2).1
 conv=>lhs;rw[e]
 rw[List.flatMap_append,List.flatMap_cons,flat_id (A:=p.take (p.idxOf v)) fun x hx=>hg x (fun hxv=>h3 x hx v (List.mem_cons_self ..) hxv),flat_id (A:=p.drop (p.idxOf v+1)) fun x hx=>hg x (fun hxv=>hB (by subst hxv;exact hx)),List.append_assoc]
end X
end Go.Vm
namespace Go.Vm
namespace X
open W Go.Proofs.St
theorem OrdP.nodup {n:Nat} {p:List Int} (h:OrdP n p):p.Nodup:=(List.Perm.nodup_iff h).2 (idL_nodup n)
theorem insL_before {p:List Int} {v y:Int} (hv:v∈p):insL p (p.idxOf v) (p.idxOf v) [y]=p.take (p.idxOf v)++[y,v]++p.drop (p.idxOf v+1):=by
 have hlt:=List.idxOf_lt_length_iff.2 hv
 have e:p[p.idxOf v]=v:=List.getElem_idxOf hlt
 unfold insL
 rw[List.drop_eq_getElem_cons hlt,e];simp
theorem insL_after {p:List Int} {v y:Int} (hv:v∈p):insL p (p.idxOf v+1) (p.idxOf v+1) [y]=p.take (p.idxOf v)++[v,y]++p.drop (p.idxOf v+1):=by
 have hlt:=List.idxOf_lt_length_iff.2 hv
 have e:p[p.idxOf v]=v:=List.getElem_idxOf hlt
 unfold insL
 rw[List.take_add_one,List.getElem?_eq_getElem hlt,e];simp
theorem undo_right_flat {s:Sp} (hk:0<s.2.length) {at_:Int} {p:List Int} (hp:OrdP s.2.length p):
  undoL s (2,at_) p=p.flatMap fun k=>if k=(s.2.length:Int)-1 then(if abv s (s.2.length-1) then [k,(s.2.length:Int)] else [(s.2.length:Int),k]) else [k]:=by
 have m1:((s.2.length:Int)-1)∈p:=hp.mem (by omega) (by omega)
 rw[flat_at hp.nodup m1 (fun x hx=>if_neg hx),if_pos rfl]
 simp only[undoL,if_true,show ¬((2:Int)=1) by omega,if_false]
 cases abv s (s.2.length-1) with
 | true=>simp only[if_true];exact insL_after m1
 | false=>simp only[Bool.false_eq_true,if_false,Nat.add_zero];exact insL_before m1
theorem cntL_nodup {p:List Int} {k d:Int} (hd:0≤d) (h:p.Nodup):(cntL p k d).Nodup:=by
 unfold cntL
 refine h.map _ fun a b hab e=>hab ?_
 split at e<;>split at e<;>omega
theorem undo_left_flat {s:Sp} (hk:0<s.2.length) {at_:Int} {p:List Int} (hp:OrdP s.2.length p):
  undoL s (1,at_) p=(cntL p 0 1).reverse.flatMap fun k=>if k=1 then(if abv s 0 then [0,k] else [k,0]) else [k]:=by
 have m1:(1:Int)∈(cntL p 0 1).reverse:=by
  rw[List.mem_reverse]
  exact List.mem_map.2 ⟨0,hp.mem (by omega) (by omega),by simp⟩
 have nd:(cntL p 0 1).reverse.Nodup:=(List.Perm.nodup_iff (List.reverse_perm _)).2 (cntL_nodup (by omega) hp.nodup)
 rw[flat_at nd m1 (fun x hx=>if_neg hx),if_pos rfl]
 simp only[undoL,if_true]
 cases abv s 0 with
 | true=>simp only[if_true,Nat.add_zero];exact insL_before m1
 | false=>simp only[Bool.false_eq_true,if_false];exact insL_after m1
theorem flat_map {g:Int→List Int} {φ:Int→Int}:∀ {A:List Int},(∀x∈A,g x=[φ x])→A.flatMap g=A.map φ
 | [],_=>rfl
 | a::A,h=>by
   rw[List.flatMap_cons,h a (List.mem_cons_self ..),flat_map fun x hx=>h x (List.mem_cons_of_mem _ hx)];rfl
theorem flat_at' {g:Int→List Int} {φ:Int→Int} {p:List Int} {v:Int} (hn:p.Nodup) (hv:v∈p) (hg:∀x,x≠v→g x=[φ x]):p.flatMap g=(p.take (p.idxOf v)).map φ++g v++(p.drop (p.idxOf v+1)).map φ:=by
 have e:=at_idx hv
 have hn':=hn
 rw[e] at hn'
 rw[List.nodup_append] at hn'
 obtain⟨h1,h2,h3⟩:=hn'
 have hB:=(List.nodup_cons.1 h2).1
 conv=>lhs;rw[e]
 rw[List.flatMap_append,List.flatMap_cons,flat_map (A:=p.take (p.idxOf v)) (φ:=φ) fun x hx=>hg x (fun hxv=>h3 x hx v (List.mem_cons_self ..) hxv),flat_map (A:=p.drop (p.idxOf v+1)) (φ:=φ) fun x hx=>hg x (fun hxv=>hB (by subst hxv;exact hx)),List.append_assoc]
theorem undo_crimp_flat {s:Sp} {c:Nat} {k:Int} (k1:k≠1) (k2:k≠2) {n:Nat} (hc:c<n) {p:List Int} (hp:OrdP n p):
  undoL s (k,(c:Int)+1) p=p.flatMap fun k=>if k=(c:Int) then(if abv s c then [k,k+1,k+2] else [k+2,k+1,k]) else [if(c:Int)+1≤k then k+2 else k]:=by
 have m1:(c:Int)∈p:=hp.mem (by omega) (by omega)
 rw[flat_at' hp.nodup m1 (φ:=fun k=>if(c:Int)+1≤k then k+2 else k) (fun x hx=>if_neg hx),if_pos rfl]
 simp only[undoL,if_neg k1,if_neg k2]
 rw[show(c:Int)+1-1=c by omega,show((c:Int)+1).toNat-1=c by omega,show(c:Int)+1+1=c+2 by omega]
 unfold insL cntL
 rw[List.map_take,List.map_drop]
end X
end Go.Vm
