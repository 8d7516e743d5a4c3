/-
  Ends: plain laws: the steps that are allowed, the strips behind them.
  Ends: plain laws: the strip behind a step.
  Ends: plain laws: strips that are good stay good; the strip behind a step by the statement's definition.
  Ends: plain laws: strips of plain data; folding; the laws EndsSteps and EndsFold.
-/
import Derived.Test.YtldgdgacdcenkaaDoorPLa
set_option linter.unusedSimpArgs false
set_option linter.unusedVariables false
set_option linter.unusedSectionVars false
set_option linter.unnecessarySimpa false
namespace Go.Vm
namespace X
open W
theorem lives18:law18_lives fuel ()=some true:=by kernel_rfl
theorem take_snoc {L:List Int} {i:Nat} (h:i<L.length):L.take (i+1)=L.take i++[L.getD i 0]:=by
 rw[List.take_add_one,List.getD,List.getElem?_eq_getElem h];rfl
theorem chk_t {β:Type} {c:Bool} {x:Option β} (h:c=true):chk c x=x:=by rw[h];rfl
def idL (n:Nat):List Int:=(List.range n).map Int.ofNat
theorem idL_len (n:Nat):(idL n).length=n:=by simp[idL]
theorem idL_snoc (n:Nat):idL (n+1)=idL n++[(n:Int)]:=by simp[idL,List.range_succ]
theorem mem_idL {n:Nat} {x:Int}:x∈idL n↔0≤x∧x<n:=by
 simp only[idL,List.mem_map,List.mem_range]
 constructor
 ·rintro ⟨a,h,rfl⟩;exact⟨by simp,by simp;omega⟩
 ·intro h;exact⟨x.toNat,by omega,by simp;omega⟩
abbrev Sp:=List Int×List Int
def lok (s:Sp):Bool:=decide (0<s.2.length)&&decide (s.1.getD 0 0≤s.1.getD 1 0)
def rok (s:Sp):Bool:=decide (0<s.2.length)&&decide (s.1.getD s.2.length 0≤s.1.getD (s.2.length-1) 0)
def cok (s:Sp) (i:Nat):Bool:=decide (0<i)&&decide (i<s.2.length)&&decide (s.1.getD i 0≤s.1.getD (i-1) 0)&&decide (s.1.getD i 0≤s.1.getD (i+1) 0)&&decide (s.2.getD (i-1) 0≠s.2.getD i 0)
def sok (s:Sp) (x:Int×Int):Bool:=
 if x.1=1 then decide (x.2=0)&&lok s else if x.1=2 then decide (x.2=0)&&rok s else if x.1=3 then decide (0≤x.2)&&cok s x.2.toNat else false
def joined (L:List Int) (i:Nat):Int:=L.getD (i-1) 0+L.getD (i+1) 0-L.getD i 0
def aftL (s:Sp):Sp:=(s.1.drop 1,s.2.drop 1)
def aftR (s:Sp):Sp:=(s.1.take s.2.length,s.2.take (s.2.length-1))
def aftC (s:Sp) (i:Nat):Sp:=(s.1.take (i-1)++([joined s.1 i]++s.1.drop (i+2)),s.2.take (i-1)++s.2.drop (i+1))
def aft (s:Sp) (x:Int×Int):Sp:=if x.1=1 then aftL s else if x.1=2 then aftR s else aftC s x.2.toNat
def Dec (s:Sp):Prop:=Valid s∧∀x∈s.2,x=1∨x=2
theorem contains_no {K:List Int} {v:Int} (h:v∉K) (hl:K.length≤10000):slices_Contains_api_Kind fuel (K,v)=some false:=by
 apply Ret.eq
 unfold slices_Contains_api_Kind
 dsimp only
 refine Ret_loop (Inv:=fun x:Int=>0≤x∧x≤K.length) (m:=fun x:Int=>((K.length:Int)-x).toNat) ?_ _ _ ⟨by omega,by omega⟩ (by simp only[fuel];omega)
 intro x rec ⟨i1,i2⟩ ih
 refine Ret_dec (fun hlt=>?_) fun hge=>Ret_some rfl
 refine Ret_chk (inb_t i1 hlt) (Ret_dec (fun he=>?_) fun _=>Ret_chk (i64b_t (by omega) (by omega)) (ih _ ⟨by omega,by omega⟩ (by omega)))
 exact absurd (by rw[show v=_ from he];exact getD_mem (by omega)) h
theorem decided_ok {s:Sp} (h:Dec s):ends_decided fuel s=some 0:=by
 unfold ends_decided
 rw[show(s.1,s.2)=s from rfl,strips_Check_valid h.1]
 have:slices_Contains_api_Kind fuel (s.2,3)=some false:=contains_no (fun hm=>by have:=h.2 _ hm;omega) (by have:=h.1;unfold Valid at this;omega)
 simp[this]
theorem left_ok {s:Sp} (h:Valid s) (i:Int):ends_left fuel (s,i)=some (sok s (1,i)):=by
 obtain⟨h1,h2,h3,h4⟩:=h
 simp only[ends_left,sok,if_true,lok]
 by_cases hi:i=0
 ·rw[decide_eq_true hi,cond_true,Bool.true_and]
  by_cases hk:0<s.2.length
  ·rw[decide_eq_true (show(0:Int)< (s.2.length:Int) by omega),cond_true,chk_t (inb_t (by omega) (by omega)),chk_t (inb_t (by omega) (by omega)),decide_eq_true hk,Bool.true_and]
  ·rw[decide_eq_false (show ¬(0:Int)< (s.2.length:Int) by omega),cond_false,decide_eq_false hk,Bool.false_and]
 ·rw[decide_eq_false hi,cond_false,Bool.false_and]
theorem right_ok {s:Sp} (h:Valid s) (i:Int):ends_right fuel (s,i)=some (sok s (2,i)):=by
 obtain⟨h1,h2,h3,h4⟩:=h
 simp only[ends_right,sok,rok,show ¬((2:Int)=1) by omega,if_false,if_true]
 by_cases hi:i=0
 ·rw[decide_eq_true hi,cond_true,Bool.true_and]
  by_cases hk:0<s.2.length
  ·rw[decide_eq_true (show(0:Int)< (s.2.length:Int) by omega),cond_true,chk_t (inb_t (by omega) (by omega)),chk_t (i64b_t (by omega) (by omega)),chk_t (inb_t (by omega) (by omega)),decide_eq_true hk,Bool.true_and,show((s.2.length:Int)-1).toNat=s.2.length-1 by omega]
  ·rw[decide_eq_false (show ¬(0:Int)< (s.2.length:Int) by omega),cond_false,decide_eq_false hk,Bool.false_and]
 ·rw[decide_eq_false hi,cond_false,Bool.false_and]
theorem crimp_ok {s:Sp} (h:Valid s) (i:Int):ends_crimp fuel (s,i)=some (sok s (3,i)):=by
 obtain⟨h1,h2,h3,h4⟩:=h
 simp only[ends_crimp,sok,cok,show ¬((3:Int)=1) by omega,show ¬((3:Int)=2) by omega,if_false,if_true]
 by_cases h0:0<i
 ·rw[decide_eq_true h0,cond_true,decide_eq_true (show 0≤i by omega),decide_eq_true (show 0<i.toNat by omega),Bool.true_and,Bool.true_and]
  by_cases hk:i<s.2.length
  ·rw[decide_eq_true hk,cond_true,decide_eq_true (show i.toNat<s.2.length by omega),Bool.true_and]
   rw[chk_t (inb_t (by omega) (by omega)),chk_t (i64b_t (by omega) (by omega)),chk_t (inb_t (by omega) (by omega)),chk_t (i64b_t (by omega) (by omega)),chk_t (inb_t (by omega) (by omega))]
   rw[show(i-1).toNat=i.toNat-1 by omega,show(i+1).toNat=i.toNat+1 by omega]
   by_cases hm:s.1.getD i.toNat 0≤min (s.1.getD (i.toNat-1) 0) (s.1.getD (i.toNat+1) 0)
   ·rw[decide_eq_true hm,cond_true,chk_t (i64b_t (by omega) (by omega)),chk_t (inb_t (by omega) (by omega)),chk_t (inb_t (by omega) (by omega)),decide_eq_true (show s.1.getD i.toNat 0≤s.1.getD (i.toNat-1) 0 by omega),decide_eq_true (show s.1.getD i.toNat 0≤s.1.getD (i.toNat+1) 0 by omega)]
    rfl
   ·rw[decide_eq_false hm,cond_false]
    by_cases ha:s.1.getD i.toNat 0≤s.1.getD (i.toNat-1) 0
    ·rw[decide_eq_false (show ¬s.1.getD i.toNat 0≤s.1.getD (i.toNat+1) 0 by omega),Bool.and_false,Bool.false_and]
    ·rw[decide_eq_false ha];rfl
  ·rw[decide_eq_false hk,cond_false,decide_eq_false (show ¬i.toNat<s.2.length by omega)];rfl
 ·rw[decide_eq_false h0,cond_false,decide_eq_false (show ¬0<i.toNat by omega)];simp
def rowS (j i:Nat):List (Int×Int):=(idL i).map fun x=>((j:Int)+1,x)
def preS (n:Nat):Nat→List (Int×Int)
 | 0=>[]
 | j+1=>preS n j++rowS j n
def stepsL (s:Sp):List (Int×Int):=(preS s.1.length 3).filter (sok s)
theorem rowS_snoc (j i:Nat):rowS j (i+1)=rowS j i++[((j:Int)+1,(i:Int))]:=by simp[rowS,idL_snoc]
theorem rowS_len (j i:Nat):(rowS j i).length=i:=by simp[rowS,idL_len]
theorem filter_one {α:Type} {f:α→Bool} {x:α}:[x].filter f=if f x then [x] else []:=by cases h:f x<;>simp[h]
theorem preS_len (n j:Nat):(preS n j).length=j*n:=by
 induction j with
 | zero=>simp[preS]
 | succ j ih=>simp[preS,ih,rowS_len,Nat.add_mul]
theorem steps_ok {s:Sp} (h:Valid s):ends_steps fuel s=some (stepsL s):=by
 have hl:=h.1
 apply Ret.eq
 unfold ends_steps
 refine Ret_loop (Inv:=fun x:List (Int×Int)×Int=>1≤x.2∧x.2≤4∧x.1=(preS s.1.length (x.2-1).toNat).filter (sok s)) (m:=fun x=>(4-x.2).toNat) ?_ _ _ ⟨by simp,by simp,rfl⟩ (by simp[fuel])
 rintro ⟨out,k⟩ rec ⟨i1,i2,i3⟩ ih
 simp only at i1 i2 i3 ⊢
 refine Ret_dec (fun hk=>?_) fun hk=>?_
 ·obtain⟨j,rfl⟩:∃j:Nat,k=(j:Int)+1:=⟨(k-1).toNat,by omega⟩
  rw[show(((j:Int)+1)-1).toNat=j by omega] at i3
  refine Ret_loop (Inv:=fun x:List (Int×Int)×Int=>0≤x.2∧x.2≤s.1.length∧x.1=(preS s.1.length j++rowS j x.2.toNat).filter (sok s)) (m:=fun x=>((s.1.length:Int)-x.2).toNat) ?_ _ _ ⟨by simp,by simp,by simp[i3,rowS,idL]⟩ (by simp only[fuel];omega)
  rintro ⟨o,i⟩ rec2 ⟨g1,g2,g3⟩ ih2
  simp only at g1 g2 g3 ⊢
  refine Ret_dec (fun hi=>?_) fun hi=>?_
  ·have hol:o.length≤10000:=by
    rw[g3];refine Nat.le_trans (List.length_filter_le ..) ?_
    rw[List.length_append,preS_len,rowS_len]
    have:j*s.1.length≤3*32:=Nat.mul_le_mul (by omega) hl
    omega
   have es:(preS s.1.length j++rowS j (i+1).toNat).filter (sok s)=if sok s ((j:Int)+1,i) then o++[((j:Int)+1,i)] else o:=by
    rw[show(i+1).toNat=i.toNat+1 by omega,rowS_snoc,←List.append_assoc,List.filter_append,←g3,filter_one,show((i.toNat:Nat):Int)=i by omega]
    split<;>simp
   have key:∀b:Bool,b=sok s ((j:Int)+1,i)→Ret (bif b then(chk (lenOk (o.length+1)) (chk (i64b (i+1)) (rec2 ((o++[((j:Int)+1,i)]),(i+1))))) else(chk (i64b (i+1)) (rec2 (o,(i+1))))) fun x=>x=stepsL s:=fun b hb=>by
    subst hb
    refine Ret_bif (fun h=>?_) fun h=>?_
    ·rw[if_pos h] at es
     exact Ret_chk (lenOk_t (by omega)) (Ret_chk (i64b_t (by omega) (by omega)) (ih2 _ ⟨by simp only;omega,by simp only;omega,es.symm⟩ (by simp only;omega)))
    ·rw[if_neg (by simp[h])] at es
     exact Ret_chk (i64b_t (by omega) (by omega)) (ih2 _ ⟨by simp only;omega,by simp only;omega,es.symm⟩ (by simp only;omega))
   rw[show(s.1,s.2)=s from rfl]
   refine Ret_dec (fun h3=>?_) fun h3=>Ret_dec (fun h2=>?_) fun h2=>Ret_dec (fun h1=>?_) fun h1=>by omega
   ·exact Ret_bind (Ret.of (crimp_ok h i)) fun r hr=>key r (by rw[hr,h3])
   ·exact Ret_bind (Ret.of (right_ok h i)) fun r hr=>key r (by rw[hr,h2])
   ·exact Ret_bind (Ret.of (left_ok h i)) fun r hr=>key r (by rw[hr,h1])
  ·rw[wrap_u8 (by omega) (by omega)]
   refine ih _ ⟨by simp only;omega,by simp only;omega,?_⟩ (by simp only;omega)
   simp only
   rw[g3,show i.toNat=s.1.length by omega,show(((j:Int)+1)+1-1).toNat=j+1 by omega]
   rfl
 ·rw[show(k-1).toNat=3 by omega] at i3
  have hol:out=stepsL s:=i3
  refine Ret_chk (by simp[bnb]) (Ret_chk (by simp[capIs]) (Ret_some ?_))
  rw[List.take_length,hol]
theorem Steps_ok {s:Sp} (h:Dec s):ends_Steps fuel s=some (stepsL s,0):=by
 unfold ends_Steps
 rw[show(s.1,s.2)=s from rfl,decided_ok h,steps_ok h.1]
 simp[capIs,chk]
end X
end Go.Vm
namespace Go.Vm
namespace X
open W
theorem own_ok {s:Sp} (h1:s.1.length≤1000) (h2:s.2.length≤1000):ends_own fuel s=some s:=by
 unfold ends_own
 rw[clone_int (by omega),clone_kind (by omega)]
 simp[bnb,capIs,chk]
theorem drop_take_all {L:List Int} {k:Nat}:(L.drop k).take (L.length-k)=L.drop k:=List.take_of_length_le (by simp)
theorem aftL_ok {s:Sp} (h:Valid s) (hk:0<s.2.length) (at_:Int):ends_done fuel (s,(1,at_))=some (aftL s):=by
 obtain⟨h1,h2,h3,h4⟩:=h
 unfold ends_done
 dsimp only
 rw[decide_eq_true rfl,cond_true,drop_take_all,drop_take_all,chk_t (by simp[bnb];omega),chk_t (by simp[bnb];omega),own_ok (by simp;omega) (by simp;omega)]
 simp[capIs,chk,aftL]
theorem aftR_ok {s:Sp} (h:Valid s) (hk:0<s.2.length) (at_:Int):ends_done fuel (s,(2,at_))=some (aftR s):=by
 obtain⟨h1,h2,h3,h4⟩:=h
 unfold ends_done
 dsimp only
 rw[decide_eq_false (by omega),cond_false,decide_eq_true rfl,cond_true,List.drop_zero,List.drop_zero,show((s.2.length:Int)-1).toNat=s.2.length-1 by omega]
 rw[chk_t (by simp[bnb];omega),chk_t (i64b_t (by omega) (by omega)),chk_t (by simp[bnb];omega),own_ok (by simp;omega) (by simp;omega)]
 simp[capIs,chk,aftR]
theorem flat_snoc {a:List (List Int)} {i:Nat} (h:i<a.length):(a.take (i+1)).flatten=(a.take i).flatten++a.getD i []:=by
 rw[List.take_add_one,List.flatten_append,List.getD,List.getElem?_eq_getElem h];simp
theorem flat_len {a:List (List Int)} {i:Nat}:(a.take i).flatten.length≤a.flatten.length:=by
 conv=>rhs;rw[←List.take_append_drop i a,List.flatten_append,List.length_append]
 omega
theorem cat_loop {a:List (List Int)} (ha:a.length≤1000) (hf:a.flatten.length≤10000) {g:Option (List Int)} (hg:g=some []) {gr:Unit×Int→Option (List Int)} (hgr:∀n:Int,0≤n→n≤10000→gr ((),n)=some []):
  loopF (fun(rec1:Int×Int→Option (List Int)) (x1:(Int×Int))=>bif(decide (x1.2< ((a.length:Nat):Int))) then(chk (inb x1.2 a.length) (chk (i64b (x1.1+ (((a.getD x1.2.toNat []).length:Nat):Int))) (bif(decide ((x1.1+ (((a.getD x1.2.toNat []).length:Nat):Int))<0)) then(none) else(chk (i64b (x1.2+1)) (rec1 ((x1.1+ (((a.getD x1.2.toNat []).length:Nat):Int)),(x1.2+1))))))) else((gr ((),x1.1)).bind fun r2=>loopF (fun(rec3:List Int×Int→Option (List Int)) (x3:((List Int)×Int))=>bif(decide (x3.2< ((a.length:Nat):Int))) then(chk (inb x3.2 a.length) (chk (lenOk (x3.1.length+ (a.getD x3.2.toNat []).length)) (chk (i64b (x3.2+1)) (rec3 ((x3.1++(a.getD x3.2.toNat [])),(x3.2+1)))))) else(some x3.1)) fuel (r2,0))) fuel (0,0)=some a.flatten:=by
 apply Ret.eq
 refine Ret_loop (Inv:=fun x:Int×Int=>0≤x.2∧x.2≤a.length∧x.1=(a.take x.2.toNat).flatten.length) (m:=fun x=>((a.length:Int)-x.2).toNat) ?_ _ _ ⟨by simp,by simp,by simp⟩ (by simp only[fuel];omega)
 rintro ⟨n,i⟩ rec ⟨i1,i2,i3⟩ ih
 simp only at i1 i2 i3 ⊢
 have l0:=flat_len (a:=a) (i:=i.toNat)
 refine Ret_dec (fun hlt=>?_) fun hge=>?_
 ·have l1:=flat_len (a:=a) (i:=i.toNat+1)
  have es:=flat_snoc (a:=a) (i:=i.toNat) (by omega)
  rw[es,List.length_append] at l1
  refine Ret_chk (inb_t i1 hlt) (Ret_chk (i64b_t (by omega) (by omega)) (Ret_dec (fun h=>absurd h (by omega)) fun _=>Ret_chk (i64b_t (by omega) (by omega)) (ih _ ⟨by simp only;omega,by simp only;omega,?_⟩ (by simp only;omega))))
  simp only
  rw[show(i+1).toNat=i.toNat+1 by omega,es,List.length_append];omega
 ·refine Ret_bind (Ret.of (hgr n (by omega) (by omega))) fun r hr=>?_
  subst hr
  refine Ret_loop (Inv:=fun x:List Int×Int=>0≤x.2∧x.2≤a.length∧x.1=(a.take x.2.toNat).flatten) (m:=fun x=>((a.length:Int)-x.2).toNat) ?_ _ _ ⟨by simp,by simp,by simp⟩ (by simp only[fuel];omega)
  rintro ⟨o,i⟩ rec ⟨i1,i2,i3⟩ ih
  simp only at i1 i2 i3 ⊢
  subst i3
  refine Ret_dec (fun hlt=>?_) fun hge=>Ret_some (by rw[List.take_of_length_le (by omega)])
  have l1:=flat_len (a:=a) (i:=i.toNat+1)
  have es:=flat_snoc (a:=a) (i:=i.toNat) (by omega)
  rw[es,List.length_append] at l1
  refine Ret_chk (inb_t i1 hlt) (Ret_chk (lenOk_t (by omega)) (Ret_chk (i64b_t (by omega) (by omega)) (ih _ ⟨by simp only;omega,by simp only;omega,?_⟩ (by simp only;omega))))
  simp only
  rw[show(i+1).toNat=i.toNat+1 by omega,es]
theorem concat_int {a:List (List Int)} (ha:a.length≤1000) (hf:a.flatten.length≤10000):slices_Concat_int fuel a=some a.flatten:=by
 unfold slices_Concat_int
 exact cat_loop ha hf rfl fun n h1 h2=>by unfold slices_Grow_int;rw[inb_t h1 (by omega)];rfl
theorem concat_kind {a:List (List Int)} (ha:a.length≤1000) (hf:a.flatten.length≤10000):slices_Concat_api_Kind fuel a=some a.flatten:=by
 unfold slices_Concat_api_Kind
 exact cat_loop ha hf rfl fun n h1 h2=>by unfold slices_Grow_api_Kind;rw[inb_t h1 (by omega)];rfl
theorem aftC_ok {s:Sp} (h:Valid s) {i:Int} (h0:0<i) (hk:i<s.2.length) {k:Int} (k1:k≠1) (k2:k≠2):ends_done fuel (s,(k,i))=some (aftC s i.toNat):=by
 obtain⟨h1,h2,h3,h4⟩:=h
 obtain⟨i,rfl⟩:=Int.eq_ofNat_of_zero_le (show 0≤i by omega)
 have g:=fun j (hj:j<s.1.length)=>h3 _ (getD_mem (L:=s.1) (i:=j) hj)
 have g1:=g i (by omega)
 have g2:=g (i-1) (by omega)
 have g3:=g (i+1) (by omega)
 unfold ends_done
 dsimp only
 rw[decide_eq_false k1,cond_false,decide_eq_false k2,cond_false]
 simp only[Int.toNat_natCast,show((i:Int)-1).toNat=i-1 by omega,show((i:Int)+1).toNat=i+1 by omega,show((i:Int)+2).toNat=i+2 by omega,List.drop_zero,drop_take_all]
 rw[chk_t (i64b_t (by omega) (by omega)),chk_t (inb_t (by omega) (by omega)),chk_t (i64b_t (by omega) (by omega)),chk_t (inb_t (by omega) (by omega)),chk_t (i64b_t (by omega) (by omega)),chk_t (inb_t (by omega) (by omega)),chk_t (i64b_t (by omega) (by omega)),chk_t (i64b_t (by omega) (by omega)),
  chk_t (by simp[bnb];omega),chk_t (i64b_t (by omega) (by omega)),chk_t (by simp[bnb];omega)]
 rw[concat_int (by simp) (by simp;omega)]
 simp only[Option.bind_some]
 rw[chk_t (i64b_t (by omega) (by omega)),chk_t (by simp[bnb];omega),chk_t (i64b_t (by omega) (by omega)),chk_t (by simp[bnb];omega)]
 rw[concat_kind (by simp) (by simp;omega)]
 simp only[Option.bind_some]
 rw[own_ok (by simp;omega) (by simp;omega)]
 simp[capIs,chk,aftC,joined]
theorem sok_bound {s:Sp} {x:Int×Int} (h:sok s x=true):0<s.2.length∧(x.1=1∨x.1=2∨(x.1=3∧0<x.2∧x.2<s.2.length)):=by
 unfold sok at h
 by_cases h1:x.1=1
 ·rw[if_pos h1] at h;simp[lok] at h;exact⟨h.2.1,.inl h1⟩
 rw[if_neg h1] at h
 by_cases h2:x.1=2
 ·rw[if_pos h2] at h;simp[rok] at h;exact⟨h.2.1,.inr (.inl h2)⟩
 rw[if_neg h2] at h
 by_cases h3:x.1=3
 ·rw[if_pos h3] at h;simp[cok] at h;exact⟨by omega,.inr (.inr ⟨h3,by omega,by omega⟩)⟩
 ·rw[if_neg h3] at h;cases h
theorem done_ok {s:Sp} (h:Valid s) {x:Int×Int} (hx:sok s x=true):ends_done fuel (s,x)=some (aft s x):=by
 obtain⟨k,at_⟩:=x
 obtain⟨hk,h1 | h1 | ⟨h1,h2,h3⟩⟩:=sok_bound hx
 ·simp only at h1;subst h1;rw[aftL_ok h hk];rfl
 ·simp only at h1;subst h1;rw[aftR_ok h hk];rfl
 ·simp only at h1;subst h1;rw[aftC_ok h h2 h3 (by omega) (by omega)];rfl
theorem Do_ok {s:Sp} (h:Dec s) (x:Int×Int):ends_Do fuel (s,x)=some (if sok s x then(aft s x,0) else(([],[]),6)):=by
 obtain⟨k,at_⟩:=x
 unfold ends_Do
 dsimp only
 rw[show(s.1,s.2)=s from rfl,decided_ok h]
 simp only[Option.bind_some,ne_eq,not_true_eq_false,decide_false,cond_false]
 by_cases k0:k<1
 ·rw[decide_eq_true k0,cond_true,if_neg]
  unfold sok;simp only;rw[if_neg (by omega),if_neg (by omega),if_neg (by omega)];simp
 rw[decide_eq_false k0,cond_false]
 by_cases k4:3<k
 ·rw[decide_eq_true k4,cond_true,if_neg]
  unfold sok;simp only;rw[if_neg (by omega),if_neg (by omega),if_neg (by omega)];simp
 rw[decide_eq_false k4,cond_false]
 have key:∀b:Bool,b=sok s (k,at_)→(bif(!b) then(some ((([],[]):Sp),(6:Int))) else((ends_done fuel (s,(k,at_))).bind fun r7=>chk ((capIs (some r7.1.length) r7.1.length)&&(capIs (some r7.2.length) r7.2.length)) (some ((r7.1,r7.2),0))))=some (if sok s (k,at_) then(aft s (k,at_),0) else(([],[]),6)):=fun b hb=>by
  subst hb
  cases e:sok s (k,at_) with
  | false=>rfl
  | true=>rw[done_ok h.1 e];simp[capIs,chk]
 by_cases k3:k=3
 ·rw[decide_eq_true k3,cond_true,crimp_ok h.1]
  exact key _ (by rw[k3])
 rw[decide_eq_false k3,cond_false]
 by_cases k2:k=2
 ·rw[decide_eq_true k2,cond_true,right_ok h.1]
  exact key _ (by rw[k2])
 rw[decide_eq_false k2,cond_false]
 by_cases k1:k=1
 ·rw[decide_eq_true k1,cond_true,left_ok h.1]
  exact key _ (by rw[k1])
 omega
end X
end Go.Vm
namespace Go.Vm
namespace X
open W
def wgt (x:Int):Int:=max 7 (2*x-9)
def wSum:List Int→Int
 | []=>0
 | x::l=>wgt x+wSum l
theorem wgt_pos (x:Int):7≤wgt x:=by unfold wgt;omega
theorem wSum_nn:∀l:List Int,0≤wSum l
 | []=>by simp[wSum]
 | x::l=>by have:=wSum_nn l;have:=wgt_pos x;simp only[wSum];omega
theorem wSum_append:∀l m:List Int,wSum (l++m)=wSum l+wSum m
 | [],m=>by simp[wSum]
 | x::l,m=>by simp only[List.cons_append,wSum,wSum_append l m];omega
theorem wSum_mem:∀ {l:List Int} {x:Int},x∈l→wgt x≤wSum l
 | y::l,x,h=>by
   simp only[wSum]
   rcases List.mem_cons.1 h with h | h
   ·subst h;have:=wSum_nn l;omega
   ·have:=wSum_mem h;have:=wgt_pos y;omega
theorem wSum_take (l:List Int) (n:Nat):wSum (l.take n)≤wSum l:=by
 have:=wSum_append (l.take n) (l.drop n);rw[List.take_append_drop] at this;have:=wSum_nn (l.drop n);omega
theorem wSum_drop (l:List Int) (n:Nat):wSum (l.drop n)≤wSum l:=by
 have:=wSum_append (l.take n) (l.drop n);rw[List.take_append_drop] at this;have:=wSum_nn (l.take n);omega
def Good (s:Sp):Prop:=Dec s∧wSum s.1≤84
theorem three {L:List Int} {i:Nat} (h0:0<i) (h:i+1<L.length):L=L.take (i-1)++(L.getD (i-1) 0::L.getD i 0::L.getD (i+1) 0::L.drop (i+2)):=by
 obtain⟨k,rfl⟩:∃k,i=k+1:=⟨i-1,by omega⟩
 have g:∀j,j<L.length→L.drop j=L.getD j 0::L.drop (j+1):=fun j hj=>by
  rw[List.drop_eq_getElem_cons hj,List.getD,List.getElem?_eq_getElem hj];rfl
 rw[Nat.add_sub_cancel,←g (k+2) (by omega),←g (k+1) (by omega),←g k (by omega),List.take_append_drop]
theorem wSum_joined {L:List Int} {i:Nat} (hL:∀x∈L,1≤x) (h0:0<i) (h:i+1<L.length):wSum (L.take (i-1)++([joined L i]++L.drop (i+2)))≤wSum L:=by
 have e:=congrArg wSum (three h0 h)
 simp only[wSum_append,wSum] at e ⊢
 have:=hL _ (getD_mem (L:=L) (i:=i) (by omega))
 unfold joined
 unfold wgt at *
 omega
theorem Good.bd {L:List Int} (h:wSum L≤84) {x:Int} (hx:x∈L):x≤64:=by
 have:=wSum_mem hx;unfold wgt at this;omega
theorem aft_good {s:Sp} (h:Good s) {x:Int×Int} (hx:sok s x=true):Good (aft s x):=by
 obtain⟨⟨⟨h1,h2,h3,h4⟩,h5⟩,h6⟩:=h
 obtain⟨k,at_⟩:=x
 obtain⟨hk,g | g | ⟨g,g2,g3⟩⟩:=sok_bound hx
 ·simp only at g;subst g
  refine⟨⟨⟨?_,?_,fun x hx=>h3 x (List.mem_of_mem_drop hx),fun x hx=>h4 x (List.mem_of_mem_drop hx)⟩,fun x hx=>h5 x (List.mem_of_mem_drop hx)⟩,Int.le_trans (wSum_drop ..) h6⟩
  all_goals (simp only[aft,if_true,aftL,List.length_drop];omega)
 ·simp only at g;subst g
  refine⟨⟨⟨?_,?_,fun x hx=>h3 x (List.mem_of_mem_take hx),fun x hx=>h4 x (List.mem_of_mem_take hx)⟩,fun x hx=>h5 x (List.mem_of_mem_take hx)⟩,Int.le_trans (wSum_take ..) h6⟩
  all_goals (simp only[aft,if_true,aftR,List.length_take,show ¬((2:Int)=1) by omega,if_false];omega)
 ·simp only at g g2 g3;subst g
  obtain⟨i,rfl⟩:=Int.eq_ofNat_of_zero_le (show 0≤at_ by omega)
  have e:aft s (3,(i:Int))=aftC s i:=by simp[aft]
  have hw:wSum (aftC s i).1≤84:=Int.le_trans (wSum_joined (fun x hx=>(h3 x hx).1) (by omega) (by omega)) h6
  have hok:cok s i=true:=by simpa[sok] using hx
  have hj:1≤joined s.1 i:=by
   simp only[cok,Bool.and_eq_true,decide_eq_true_eq] at hok
   have:=(h3 _ (getD_mem (L:=s.1) (i:=i-1) (by omega))).1
   unfold joined;omega
  have mk:∀x∈(aftC s i).2,x∈s.2:=fun x hx=>by
   rcases List.mem_append.1 hx with h | h
   ·exact List.mem_of_mem_take h
   ·exact List.mem_of_mem_drop h
  rw[e]
  refine⟨⟨⟨?_,?_,fun x hx=>⟨?_,Good.bd hw hx⟩,fun x hx=>h4 x (mk x hx)⟩,fun x hx=>h5 x (mk x hx)⟩,hw⟩
  ·simp only[aftC,List.length_append,List.length_take,List.length_drop,List.length_singleton];omega
  ·simp only[aftC,List.length_append,List.length_take,List.length_drop,List.length_singleton];omega
  ·rcases List.mem_append.1 hx with h | h
   ·exact(h3 x (List.mem_of_mem_take h)).1
   rcases List.mem_append.1 h with h | h
   ·rw[List.mem_singleton.1 h];exact hj
   ·exact(h3 x (List.mem_of_mem_drop h)).1
end X
end Go.Vm
namespace Go.Vm
namespace X
open W
theorem wSum_small:∀ {l:List Int},(∀x∈l,x≤8)→wSum l≤7*l.length
 | [],_=>by simp[wSum]
 | x::l,h=>by
   have h1:=h x (List.mem_cons_self ..)
   have h2:=wSum_small fun y hy=>h y (List.mem_cons_of_mem _ hy)
   simp only[wSum,List.length_cons,wgt];omega
def Good0 (s:Sp):Prop:=Good s∧s.1.length≤12∧∀x∈s.1,1≤x∧x≤8
theorem law18_D_ok {a:List Int×List Int} (h1:bytes a.1) (h2:bytes a.2):Ret (law18_D fuel a) Good0:=by
 unfold law18_D
 refine Ret_bind (law16_T_Of_ok (a:=(a.1,a.2)) h1 h2) fun r ⟨q1,q2,q3,q4,q5⟩=>?_
 refine Ret_loop (Inv:=fun x:Int×(List Int×Option Nat)=>0≤x.1∧x.1≤r.2.length∧x.2.1.length=r.2.length∧∀i:Nat,i<r.2.length→1≤x.2.1.getD i 0∧x.2.1.getD i 0≤3∧((i:Int)<x.1→x.2.1.getD i 0≠3)) (m:=fun x=>((r.2.length:Int)-x.1).toNat) ?_ _ _ ⟨by simp,by simp,rfl,fun i hi=>?_⟩ (by simp only[fuel];omega)
 ·rintro ⟨i,K,o⟩ rec ⟨i1,i2,i3,i4⟩ ih
  simp only at i1 i2 i3 i4 ⊢
  refine Ret_dec (fun hlt=>Ret_chk (inb_t (by omega) (by omega)) (Ret_dec (fun h3=>?_) fun h3=>?_)) fun hge=>?_
  ·refine Ret_chk (inb_t (by omega) (by omega)) (Ret_chk (i64b_t (by omega) (by omega)) (ih _ ⟨by simp only;omega,by simp only;omega,by simp only[List.length_set];exact i3,fun j hj=>?_⟩ (by simp only;omega)))
   simp only
   rw[getD_set (by omega)]
   split
   ·omega
   ·have:=i4 j hj;omega
  ·refine Ret_chk (i64b_t (by omega) (by omega)) (ih _ ⟨by simp only;omega,by simp only;omega,i3,fun j hj=>?_⟩ (by simp only;omega))
   have:=i4 j hj
   refine⟨this.1,this.2.1,fun h=>?_⟩
   by_cases hji:(j:Int)=i
   ·rw[←hji,Int.toNat_natCast] at h3;exact h3
   ·exact this.2.2 (by simp only at h;omega)
  ·have hK:∀x∈K,1≤x∧x≤2:=all_of_getD fun j hj=>by have:=i4 j (by omega);omega
   refine Ret_some ⟨⟨⟨⟨by simp only;omega,by simp only;omega,fun x hx=>by have:=q4 x hx;omega,fun x hx=>by have:=hK x hx;omega⟩,fun x hx=>by have:=hK x hx;omega⟩,?_⟩,q2,q4⟩
   have:=wSum_small fun x hx=>(q4 x hx).2
   simp only;omega
 ·have:=q5 _ (getD_mem (L:=r.2) hi)
  exact⟨this.1,this.2,fun h=>absurd h (by simp only;omega)⟩
theorem eta {α β:Type} (x:α×β):(x.1,x.2)=x:=rfl
def foldN:Nat→Sp→List (Int×Int)×Sp
 | 0,s=>([],s)
 | m+1,s=>match stepsL s with
   | []=>([],s)
   | x::_=>(x::(foldN m (aft s x)).1,(foldN m (aft s x)).2)
def foldS (s:Sp):List (Int×Int)×Sp:=foldN s.2.length s
theorem sok_of_mem {s:Sp} {x:Int×Int} (h:x∈stepsL s):sok s x=true:=(List.mem_filter.1 h).2
theorem sok_of_cons {s:Sp} {x:Int×Int} {t:List (Int×Int)} (h:stepsL s=x::t):sok s x=true:=sok_of_mem (by rw[h];exact List.mem_cons_self ..)
theorem stepsL_nil {s:Sp} (h:s.2.length=0):stepsL s=[]:=by
 cases e:stepsL s with
 | nil=>rfl
 | cons x t=>have:=(sok_bound (sok_of_cons e)).1;omega
theorem aft_less {s:Sp} {x:Int×Int} (hx:sok s x=true):(aft s x).2.length<s.2.length:=by
 obtain⟨hk,h | h | ⟨h,h2,h3⟩⟩:=sok_bound hx
 ·rw[aft,if_pos h];simp only[aftL,List.length_drop];omega
 ·rw[aft,if_neg (by omega),if_pos h];simp only[aftR,List.length_take];omega
 ·rw[aft,if_neg (by omega),if_neg (by omega)];simp only[aftC,List.length_append,List.length_take,List.length_drop];omega
theorem foldN_ge:∀ {m n:Nat} {s:Sp},s.2.length≤m→s.2.length≤n→foldN m s=foldN n s
 | 0,0,s,_,_=>rfl
 | 0,n+1,s,h,_=>by simp only[foldN];rw[stepsL_nil (by omega)]
 | m+1,0,s,_,h=>by simp only[foldN];rw[stepsL_nil (by omega)]
 | m+1,n+1,s,h1,h2=>by
   simp only[foldN]
   cases e:stepsL s with
   | nil=>rfl
   | cons x t=>
     have:=aft_less (sok_of_cons e)
     simp only
     rw[foldN_ge (m:=m) (n:=n) (by omega) (by omega)]
theorem foldS_nil {s:Sp} (h:stepsL s=[]):foldS s=([],s):=by
 unfold foldS
 cases s.2.length with
 | zero=>rfl
 | succ n=>simp only[foldN];rw[h]
theorem foldS_cons {s:Sp} {x:Int×Int} {t:List (Int×Int)} (h:stepsL s=x::t):foldS s=(x::(foldS (aft s x)).1,(foldS (aft s x)).2):=by
 have h1:=aft_less (sok_of_cons h)
 have h2:foldS s=foldN ((aft s x).2.length+1+ (s.2.length-(aft s x).2.length-1)) s:=by unfold foldS;congr 1;omega
 rw[h2,show(aft s x).2.length+1+ (s.2.length-(aft s x).2.length-1)=(s.2.length-1)+1 by omega]
 simp only[foldN,h]
 rw[foldN_ge (m:=s.2.length-1) (n:=(aft s x).2.length) (by omega) (by omega)]
 rfl
theorem fold_ind {P:Sp→Prop} (h0:∀s,stepsL s=[]→P s) (h1:∀s x t,stepsL s=x::t→P (aft s x)→P s):∀s,P s:=by
 have:∀n s,s.2.length≤n→P s:=fun n=>by
  induction n with
  | zero=>intro s hs;exact h0 s (stepsL_nil (by omega))
  | succ n ih=>
    intro s hs
    cases e:stepsL s with
    | nil=>exact h0 s e
    | cons x t=>exact h1 s x t e (ih _ (by have:=aft_less (sok_of_cons e);omega))
 exact fun s=>this _ s (Nat.le_refl _)
theorem Good.val {s:Sp} (h:Good s):Valid s:=h.1.1
theorem Good.len {s:Sp} (h:Good s):s.1.length=s.2.length+1∧s.2.length≤31:=by have:=h.1.1;unfold Valid at this;omega
theorem Fold_ok {s:Sp} (h:Good s):ends_Fold fuel s=some ((foldS s).1,((foldS s).2,0)):=by
 unfold ends_Fold
 rw[show(s.1,s.2)=s from rfl,decided_ok h.1]
 simp only[Option.bind_some,ne_eq,not_true_eq_false,decide_false,cond_false]
 rw[own_ok (by have:=h.len;omega) (by have:=h.len;omega)]
 simp only[Option.bind_some]
 rw[show(s.1,s.2)=s from rfl,steps_ok h.val]
 simp only[Option.bind_some]
 apply Ret.eq
 refine Ret_loop (Inv:=fun x=>Good (x.2.2.1.1,x.2.2.2.1)∧x.2.1.1=stepsL (x.2.2.1.1,x.2.2.2.1)∧x.2.1.2=x.2.1.1.length∧x.2.2.1.2=x.2.2.1.1.length∧x.2.2.2.2=x.2.2.2.1.length∧x.1.length+x.2.2.2.1.length≤40∧foldS s=(x.1++(foldS (x.2.2.1.1,x.2.2.2.1)).1,(foldS (x.2.2.1.1,x.2.2.2.1)).2)) (m:=fun x=>x.2.2.2.1.length) ?_ _ _ ⟨h,rfl,rfl,rfl,rfl,by have:=h.len;simp;omega,by simp⟩ (by have:=h.len;simp only[fuel];omega)
 rintro ⟨out,⟨⟨l,c⟩,⟨⟨L,n⟩,⟨K,k⟩⟩⟩⟩ rec ⟨g1,g2,g3,g4,g5,g6,g7⟩ ih
 simp only at g1 g2 g3 g4 g5 g6 g7 ⊢
 subst g3 g4 g5
 simp only[eta]
 cases e:stepsL (L,K) with
 | nil=>
   rw[e] at g2
   subst g2
   rw[foldS_nil e,List.append_nil] at g7
   refine Ret_dec (fun hl=>by simp at hl) fun _=>Ret_chk (by simp[bnb]) (Ret_chk (by simp[capIs]) (Ret_some ?_))
   rw[g7,List.take_length]
 | cons x t=>
   rw[e] at g2
   subst g2
   rw[foldS_cons e] at g7
   have ha:=aft_good g1 (sok_of_cons e)
   have hl:=aft_less (sok_of_cons e)
   simp only at hl
   refine Ret_dec (fun _=>?_) fun hl=>absurd (show(0:Int)< ((x::t).length:Nat) by simp only[List.length_cons];omega) hl
   refine Ret_chk (inb_t (by omega) (by simp only[List.length_cons];omega)) (Ret_chk (lenOk_t (by omega)) (Ret_chk (inb_t (by omega) (by simp only[List.length_cons];omega)) ?_))
   rw[List.getD_cons_zero]
   refine Ret_bind (Ret.of (done_ok g1.val (sok_of_cons e))) fun r hr=>?_
   subst hr
   refine Ret_bind (Ret.of (steps_ok ha.val)) fun r6 hr=>?_
   subst hr
   refine ih _ ⟨ha,rfl,rfl,rfl,rfl,?_,?_⟩ (by simp only;omega)
   ·simp only[List.length_append,List.length_singleton];omega
   ·simp only;rw[g7,List.append_assoc];rfl
theorem Folds_ok {s:Sp} (h:Good s):ends_Folds fuel s=some (decide ((foldS s).2.2.length=0),0):=by
 unfold ends_Folds
 rw[show(s.1,s.2)=s from rfl,Fold_ok h]
 simp
end X
end Go.Vm
