/-
  Ends: plain laws: the steps that are allowed, the strips behind them.
  Ends: plain laws: the strip behind a step.
  Ends: plain laws: strips that are good stay good; the strip behind a step by the statement's definition.
  Ends: plain laws: strips of plain data; folding; the laws EndsSteps and EndsFold.
  Ends: plain laws: the pile put together backwards.
  Ends: plain laws: a step undone.
  Ends: plain laws: what is put together backwards is an order of the segments.
  Ends: plain laws: Pile.
  Ends: lists in which one element is replaced by some.
  Ends: the law EndsBack: lists.
-/
import Derived.Test.YtldgdgacdcenkaaGreatDoorPPa
set_option linter.unusedSimpArgs false
set_option linter.unusedVariables false
set_option linter.unusedSectionVars false
set_option linter.unnecessarySimpa false
namespace Go.Vm
namespace X
open W Go.Proofs.St
theorem jev:jao jak ()=some true:=by kernel_rfl
abbrev Sp:=List Int×List Int
def lok (s:Sp):Bool:=decide (0<s.2.length)&&decide (s.1.getD 0 0≤s.1.getD 1 0)
def rok (s:Sp):Bool:=decide (0<s.2.length)&&decide (s.1.getD s.2.length 0≤s.1.getD (s.2.length-1) 0)
def cok (s:Sp) (i:Nat):Bool:=decide (0<i)&&decide (i<s.2.length)&&decide (s.1.getD i 0≤s.1.getD (i-1) 0)&&decide (s.1.getD i 0≤s.1.getD (i+1) 0)&&decide (s.2.getD (i-1) 0≠s.2.getD i 0)
def sok (s:Sp) (x:Int×Int):Bool:=
 if x.1=1 then decide (x.2=0)&&lok s else if x.1=2 then decide (x.2=0)&&rok s else if x.1=3 then decide (0≤x.2)&&cok s x.2.toNat else false
def jho (L:List Int) (i:Nat):Int:=L.getD (i-1) 0+L.getD (i+1) 0-L.getD i 0
def jz7 (s:Sp):Sp:=(s.1.drop 1,s.2.drop 1)
def jz6 (s:Sp):Sp:=(s.1.take s.2.length,s.2.take (s.2.length-1))
def jnt (s:Sp) (i:Nat):Sp:=(s.1.take (i-1)++([jho s.1 i]++s.1.drop (i+2)),s.2.take (i-1)++s.2.drop (i+1))
def aft (s:Sp) (x:Int×Int):Sp:=if x.1=1 then jz7 s else if x.1=2 then jz6 s else jnt s x.2.toNat
def Dec (s:Sp):Prop:=jd3 s∧∀x∈s.2,x=1∨x=2
theorem jxx {K:List Int} {v:Int} (h:v∉K) (hl:K.length≤10000):jaz jak (K,v)=some false:=by
 apply Ret.eq
 unfold jaz
 dsimp only
 refine jas (Inv:=fun x:Int=>0≤x∧x≤K.length) (m:=fun x:Int=>((K.length:Int)-x).toNat) ?_ _ _ ⟨by omega,by omega⟩ (by simp only[jak];omega)
 intro x rec ⟨i1,i2⟩ ih
 refine jac (fun hlt=>?_) fun hge=>jal rfl
 refine jaa (jat i1 hlt) (jac (fun he=>?_) fun _=>jaa (jah (by omega) (by omega)) (ih _ ⟨by omega,by omega⟩ (by omega)))
 exact absurd (by rw[show v=_ from he];exact jaw (by omega)) h
theorem jmt {s:Sp} (h:Dec s):jbt jak s=some 0:=by
 unfold jbt
 rw[show(s.1,s.2)=s from rfl,jf4 h.1]
 have:jaz jak (s.2,3)=some false:=jxx (fun hm=>by have:=h.2 _ hm;omega) (by have:=h.1;unfold jd3 at this;omega)
 simp[this]
theorem j34 {s:Sp} (h:jd3 s) (i:Int):je6 jak (s,i)=some (sok s (1,i)):=by
 obtain⟨h1,h2,h3,h4⟩:=h
 simp only[je6,sok,if_true,lok]
 by_cases hi:i=0
 ·rw[decide_eq_true hi,cond_true,Bool.true_and]
  by_cases hk:0<s.2.length
  ·rw[decide_eq_true (show(0:Int)< (s.2.length:Int) by omega),cond_true,ja8 (jat (by omega) (by omega)),ja8 (jat (by omega) (by omega)),decide_eq_true hk,Bool.true_and]
  ·rw[decide_eq_false (show ¬(0:Int)< (s.2.length:Int) by omega),cond_false,decide_eq_false hk,Bool.false_and]
 ·rw[decide_eq_false hi,cond_false,Bool.false_and]
theorem jyu {s:Sp} (h:jd3 s) (i:Int):jd0 jak (s,i)=some (sok s (2,i)):=by
 obtain⟨h1,h2,h3,h4⟩:=h
 simp only[jd0,sok,rok,show ¬((2:Int)=1) by omega,if_false,if_true]
 by_cases hi:i=0
 ·rw[decide_eq_true hi,cond_true,Bool.true_and]
  by_cases hk:0<s.2.length
  ·rw[decide_eq_true (show(0:Int)< (s.2.length:Int) by omega),cond_true,ja8 (jat (by omega) (by omega)),ja8 (jah (by omega) (by omega)),ja8 (jat (by omega) (by omega)),decide_eq_true hk,Bool.true_and,show((s.2.length:Int)-1).toNat=s.2.length-1 by omega]
  ·rw[decide_eq_false (show ¬(0:Int)< (s.2.length:Int) by omega),cond_false,decide_eq_false hk,Bool.false_and]
 ·rw[decide_eq_false hi,cond_false,Bool.false_and]
theorem jzx {s:Sp} (h:jd3 s) (i:Int):jd1 jak (s,i)=some (sok s (3,i)):=by
 obtain⟨h1,h2,h3,h4⟩:=h
 simp only[jd1,sok,cok,show ¬((3:Int)=1) by omega,show ¬((3:Int)=2) by omega,if_false,if_true]
 by_cases h0:0<i
 ·rw[decide_eq_true h0,cond_true,decide_eq_true (show 0≤i by omega),decide_eq_true (show 0<i.toNat by omega),Bool.true_and,Bool.true_and]
  by_cases hk:i<s.2.length
  ·rw[decide_eq_true hk,cond_true,decide_eq_true (show i.toNat<s.2.length by omega),Bool.true_and]
   rw[ja8 (jat (by omega) (by omega)),ja8 (jah (by omega) (by omega)),ja8 (jat (by omega) (by omega)),ja8 (jah (by omega) (by omega)),ja8 (jat (by omega) (by omega))]
   rw[show(i-1).toNat=i.toNat-1 by omega,show(i+1).toNat=i.toNat+1 by omega]
   by_cases hm:s.1.getD i.toNat 0≤min (s.1.getD (i.toNat-1) 0) (s.1.getD (i.toNat+1) 0)
   ·rw[decide_eq_true hm,cond_true,ja8 (jah (by omega) (by omega)),ja8 (jat (by omega) (by omega)),ja8 (jat (by omega) (by omega)),decide_eq_true (show s.1.getD i.toNat 0≤s.1.getD (i.toNat-1) 0 by omega),decide_eq_true (show s.1.getD i.toNat 0≤s.1.getD (i.toNat+1) 0 by omega)]
    rfl
   ·rw[decide_eq_false hm,cond_false]
    by_cases ha:s.1.getD i.toNat 0≤s.1.getD (i.toNat-1) 0
    ·rw[decide_eq_false (show ¬s.1.getD i.toNat 0≤s.1.getD (i.toNat+1) 0 by omega),Bool.and_false,Bool.false_and]
    ·rw[decide_eq_false ha];rfl
  ·rw[decide_eq_false hk,cond_false,decide_eq_false (show ¬i.toNat<s.2.length by omega)];rfl
 ·rw[decide_eq_false h0,cond_false,decide_eq_false (show ¬0<i.toNat by omega)];simp
def jnf (j i:Nat):List (Int×Int):=(idL i).map fun x=>((j:Int)+1,x)
def jsd (n:Nat):Nat→List (Int×Int)
 | 0=>[]
 | j+1=>jsd n j++jnf j n
def ja1 (s:Sp):List (Int×Int):=(jsd s.1.length 3).filter (sok s)
theorem jh8 (j i:Nat):jnf j (i+1)=jnf j i++[((j:Int)+1,(i:Int))]:=by simp[jnf,js4]
theorem jys (j i:Nat):(jnf j i).length=i:=by simp[jnf,js5]
theorem jrj {α:Type} {f:α→Bool} {x:α}:[x].filter f=if f x then [x] else []:=by cases h:f x<;>simp[h]
theorem jyy (n j:Nat):(jsd n j).length=j*n:=by
 induction j with
 | zero=>simp[jsd]
 | succ j ih=>simp[jsd,ih,jys,Nat.add_mul]
theorem jkz {s:Sp} (h:jd3 s):jch jak s=some (ja1 s):=by
 have hl:=h.1
 apply Ret.eq
 unfold jch
 refine jas (Inv:=fun x:List (Int×Int)×Int=>1≤x.2∧x.2≤4∧x.1=(jsd s.1.length (x.2-1).toNat).filter (sok s)) (m:=fun x=>(4-x.2).toNat) ?_ _ _ ⟨by simp,by simp,rfl⟩ (by simp[jak])
 rintro ⟨out,k⟩ rec ⟨i1,i2,i3⟩ ih
 simp only at i1 i2 i3 ⊢
 refine jac (fun hk=>?_) fun hk=>?_
 ·obtain⟨j,rfl⟩:∃j:Nat,k=(j:Int)+1:=⟨(k-1).toNat,by omega⟩
  rw[show(((j:Int)+1)-1).toNat=j by omega] at i3
  refine jas (Inv:=fun x:List (Int×Int)×Int=>0≤x.2∧x.2≤s.1.length∧x.1=(jsd s.1.length j++jnf j x.2.toNat).filter (sok s)) (m:=fun x=>((s.1.length:Int)-x.2).toNat) ?_ _ _ ⟨by simp,by simp,by simp[i3,jnf,idL]⟩ (by simp only[jak];omega)
  rintro ⟨o,i⟩ rec2 ⟨g1,g2,g3⟩ ih2
  simp only at g1 g2 g3 ⊢
  refine jac (fun hi=>?_) fun hi=>?_
  ·have hol:o.length≤10000:=by
    rw[g3];refine Nat.le_trans (List.length_filter_le ..) ?_
    rw[List.length_append,jyy,jys]
    have:j*s.1.length≤3*32:=Nat.mul_le_mul (by omega) hl
    omega
   have es:(jsd s.1.length j++jnf j (i+1).toNat).filter (sok s)=if sok s ((j:Int)+1,i) then o++[((j:Int)+1,i)] else o:=by
    rw[show(i+1).toNat=i.toNat+1 by omega,jh8,←List.append_assoc,List.filter_append,←g3,jrj,show((i.toNat:Nat):Int)=i by omega]
    split<;>simp
   have key:∀b:Bool,b=sok s ((j:Int)+1,i)→Ret (bif b then(chk (jb0 (o.length+1)) (chk (jap (i+1)) (rec2 ((o++[((j:Int)+1,i)]),(i+1))))) else(chk (jap (i+1)) (rec2 (o,(i+1))))) fun x=>x=ja1 s:=fun b hb=>by
    subst hb
    refine ja7 (fun h=>?_) fun h=>?_
    ·rw[if_pos h] at es
     exact jaa (jbg (by omega)) (jaa (jah (by omega) (by omega)) (ih2 _ ⟨by simp only;omega,by simp only;omega,es.symm⟩ (by simp only;omega)))
    ·rw[if_neg (by simp[h])] at es
     exact jaa (jah (by omega) (by omega)) (ih2 _ ⟨by simp only;omega,by simp only;omega,es.symm⟩ (by simp only;omega))
   rw[show(s.1,s.2)=s from rfl]
   refine jac (fun h3=>?_) fun h3=>jac (fun h2=>?_) fun h2=>jac (fun h1=>?_) fun h1=>by omega
   ·exact jai (Ret.of (jzx h i)) fun r hr=>key r (by rw[hr,h3])
   ·exact jai (Ret.of (jyu h i)) fun r hr=>key r (by rw[hr,h2])
   ·exact jai (Ret.of (j34 h i)) fun r hr=>key r (by rw[hr,h1])
  ·rw[jr4 (by omega) (by omega)]
   refine ih _ ⟨by simp only;omega,by simp only;omega,?_⟩ (by simp only;omega)
   simp only
   rw[g3,show i.toNat=s.1.length by omega,show(((j:Int)+1)+1-1).toNat=j+1 by omega]
   rfl
 ·rw[show(k-1).toNat=3 by omega] at i3
  have hol:out=ja1 s:=i3
  refine jaa (by simp[bnb]) (jaa (by simp[jbr]) (jal ?_))
  rw[List.take_length,hol]
theorem jlt {s:Sp} (h:Dec s):jbw jak s=some (ja1 s,0):=by
 unfold jbw
 rw[show(s.1,s.2)=s from rfl,jmt h,jkz h.1]
 simp[jbr,chk]
end X
end Go.Vm
namespace Go.Vm
namespace X
open W Go.Proofs.St
theorem jy4 {s:Sp} (h1:s.1.length≤1000) (h2:s.2.length≤1000):je1 jak s=some s:=by
 unfold je1
 rw[jpq (by omega),j1m (by omega)]
 simp[bnb,jbr,chk]
theorem jed {L:List Int} {k:Nat}:(L.drop k).take (L.length-k)=L.drop k:=List.take_of_length_le (by simp)
theorem kbj {s:Sp} (h:jd3 s) (hk:0<s.2.length) (at_:Int):jbh jak (s,(1,at_))=some (jz7 s):=by
 obtain⟨h1,h2,h3,h4⟩:=h
 unfold jbh
 dsimp only
 rw[decide_eq_true rfl,cond_true,jed,jed,ja8 (by simp[bnb];omega),ja8 (by simp[bnb];omega),jy4 (by simp;omega) (by simp;omega)]
 simp[jbr,chk,jz7]
theorem kbi {s:Sp} (h:jd3 s) (hk:0<s.2.length) (at_:Int):jbh jak (s,(2,at_))=some (jz6 s):=by
 obtain⟨h1,h2,h3,h4⟩:=h
 unfold jbh
 dsimp only
 rw[decide_eq_false (by omega),cond_false,decide_eq_true rfl,cond_true,List.drop_zero,List.drop_zero,show((s.2.length:Int)-1).toNat=s.2.length-1 by omega]
 rw[ja8 (by simp[bnb];omega),ja8 (jah (by omega) (by omega)),ja8 (by simp[bnb];omega),jy4 (by simp;omega) (by simp;omega)]
 simp[jbr,chk,jz6]
theorem jve {a:List (List Int)} {i:Nat} (h:i<a.length):(a.take (i+1)).flatten=(a.take i).flatten++a.getD i []:=by
 rw[List.take_add_one,List.flatten_append,List.getD,List.getElem?_eq_getElem h];simp
theorem jpl {a:List (List Int)} {i:Nat}:(a.take i).flatten.length≤a.flatten.length:=by
 conv=>rhs;rw[←List.take_append_drop i a,List.flatten_append,List.length_append]
 omega
theorem jz0 {a:List (List Int)} (ha:a.length≤1000) (hf:a.flatten.length≤10000) {g:Option (List Int)} (hg:g=some []) {gr:Unit×Int→Option (List Int)} (hgr:∀n:Int,0≤n→n≤10000→gr ((),n)=some []):
  jbe (fun(rec1:Int×Int→Option (List Int)) (x1:(Int×Int))=>bif(decide (x1.2< ((a.length:Nat):Int))) then(chk (inb x1.2 a.length) (chk (jap (x1.1+ (((a.getD x1.2.toNat []).length:Nat):Int))) (bif(decide ((x1.1+ (((a.getD x1.2.toNat []).length:Nat):Int))<0)) then(none) else(chk (jap (x1.2+1)) (rec1 ((x1.1+ (((a.getD x1.2.toNat []).length:Nat):Int)),(x1.2+1))))))) else((gr ((),x1.1)).bind fun r2=>jbe (fun(rec3:List Int×Int→Option (List Int)) (x3:((List Int)×Int))=>bif(decide (x3.2< ((a.length:Nat):Int))) then(chk (inb x3.2 a.length) (chk (jb0 (x3.1.length+ (a.getD x3.2.toNat []).length)) (chk (jap (x3.2+1)) (rec3 ((x3.1++(a.getD x3.2.toNat [])),(x3.2+1)))))) else(some x3.1)) jak (r2,0))) jak (0,0)=some a.flatten:=by
 apply Ret.eq
 refine jas (Inv:=fun x:Int×Int=>0≤x.2∧x.2≤a.length∧x.1=(a.take x.2.toNat).flatten.length) (m:=fun x=>((a.length:Int)-x.2).toNat) ?_ _ _ ⟨by simp,by simp,by simp⟩ (by simp only[jak];omega)
 rintro ⟨n,i⟩ rec ⟨i1,i2,i3⟩ ih
 simp only at i1 i2 i3 ⊢
 have l0:=jpl (a:=a) (i:=i.toNat)
 refine jac (fun hlt=>?_) fun hge=>?_
 ·have l1:=jpl (a:=a) (i:=i.toNat+1)
  have es:=jve (a:=a) (i:=i.toNat) (by omega)
  rw[es,List.length_append] at l1
  refine jaa (jat i1 hlt) (jaa (jah (by omega) (by omega)) (jac (fun h=>absurd h (by omega)) fun _=>jaa (jah (by omega) (by omega)) (ih _ ⟨by simp only;omega,by simp only;omega,?_⟩ (by simp only;omega))))
  simp only
  rw[show(i+1).toNat=i.toNat+1 by omega,es,List.length_append];omega
 ·refine jai (Ret.of (hgr n (by omega) (by omega))) fun r hr=>?_
  subst hr
  refine jas (Inv:=fun x:List Int×Int=>0≤x.2∧x.2≤a.length∧x.1=(a.take x.2.toNat).flatten) (m:=fun x=>((a.length:Int)-x.2).toNat) ?_ _ _ ⟨by simp,by simp,by simp⟩ (by simp only[jak];omega)
  rintro ⟨o,i⟩ rec ⟨i1,i2,i3⟩ ih
  simp only at i1 i2 i3 ⊢
  subst i3
  refine jac (fun hlt=>?_) fun hge=>jal (by rw[List.take_of_length_le (by omega)])
  have l1:=jpl (a:=a) (i:=i.toNat+1)
  have es:=jve (a:=a) (i:=i.toNat) (by omega)
  rw[es,List.length_append] at l1
  refine jaa (jat i1 hlt) (jaa (jbg (by omega)) (jaa (jah (by omega) (by omega)) (ih _ ⟨by simp only;omega,by simp only;omega,?_⟩ (by simp only;omega))))
  simp only
  rw[show(i+1).toNat=i.toNat+1 by omega,es]
theorem j1k {a:List (List Int)} (ha:a.length≤1000) (hf:a.flatten.length≤10000):jbu jak a=some a.flatten:=by
 unfold jbu
 exact jz0 ha hf rfl fun n h1 h2=>by unfold jd5;rw[jat h1 (by omega)];rfl
theorem jxy {a:List (List Int)} (ha:a.length≤1000) (hf:a.flatten.length≤10000):ja6 jak a=some a.flatten:=by
 unfold ja6
 exact jz0 ha hf rfl fun n h1 h2=>by unfold jcc;rw[jat h1 (by omega)];rfl
theorem kbk {s:Sp} (h:jd3 s) {i:Int} (h0:0<i) (hk:i<s.2.length) {k:Int} (k1:k≠1) (k2:k≠2):jbh jak (s,(k,i))=some (jnt s i.toNat):=by
 obtain⟨h1,h2,h3,h4⟩:=h
 obtain⟨i,rfl⟩:=Int.eq_ofNat_of_zero_le (show 0≤i by omega)
 have g:=fun j (hj:j<s.1.length)=>h3 _ (jaw (L:=s.1) (i:=j) hj)
 have g1:=g i (by omega)
 have g2:=g (i-1) (by omega)
 have g3:=g (i+1) (by omega)
 unfold jbh
 dsimp only
 rw[decide_eq_false k1,cond_false,decide_eq_false k2,cond_false]
 simp only[Int.toNat_natCast,show((i:Int)-1).toNat=i-1 by omega,show((i:Int)+1).toNat=i+1 by omega,show((i:Int)+2).toNat=i+2 by omega,List.drop_zero,jed]
 rw[ja8 (jah (by omega) (by omega)),ja8 (jat (by omega) (by omega)),ja8 (jah (by omega) (by omega)),ja8 (jat (by omega) (by omega)),ja8 (jah (by omega) (by omega)),ja8 (jat (by omega) (by omega)),ja8 (jah (by omega) (by omega)),ja8 (jah (by omega) (by omega)),
  ja8 (by simp[bnb];omega),ja8 (jah (by omega) (by omega)),ja8 (by simp[bnb];omega)]
 rw[j1k (by simp) (by simp;omega)]
 simp only[Option.bind_some]
 rw[ja8 (jah (by omega) (by omega)),ja8 (by simp[bnb];omega),ja8 (jah (by omega) (by omega)),ja8 (by simp[bnb];omega)]
 rw[jxy (by simp) (by simp;omega)]
 simp only[Option.bind_some]
 rw[jy4 (by simp;omega) (by simp;omega)]
 simp[jbr,chk,jnt,jho]
theorem jbx {s:Sp} {x:Int×Int} (h:sok s x=true):0<s.2.length∧(x.1=1∨x.1=2∨(x.1=3∧0<x.2∧x.2<s.2.length)):=by
 unfold sok at h
 by_cases h1:x.1=1
 ·rw[if_pos h1] at h;simp[lok] at h;exact⟨h.2.1,.inl h1⟩
 rw[if_neg h1] at h
 by_cases h2:x.1=2
 ·rw[if_pos h2] at h;simp[rok] at h;exact⟨h.2.1,.inr (.inl h2)⟩
 rw[if_neg h2] at h
 by_cases h3:x.1=3
 ·rw[if_pos h3] at h;simp[cok] at h;exact⟨by omega,.inr (.inr ⟨h3,by omega,by omega⟩)⟩
 ·rw[if_neg h3] at h;cases h
theorem jxu {s:Sp} (h:jd3 s) {x:Int×Int} (hx:sok s x=true):jbh jak (s,x)=some (aft s x):=by
 obtain⟨k,at_⟩:=x
 obtain⟨hk,h1 | h1 | ⟨h1,h2,h3⟩⟩:=jbx hx
 ·simp only at h1;subst h1;rw[kbj h hk];rfl
 ·simp only at h1;subst h1;rw[kbi h hk];rfl
 ·simp only at h1;subst h1;rw[kbk h h2 h3 (by omega) (by omega)];rfl
theorem j79 {s:Sp} (h:Dec s) (x:Int×Int):jfw jak (s,x)=some (if sok s x then(aft s x,0) else(([],[]),6)):=by
 obtain⟨k,at_⟩:=x
 unfold jfw
 dsimp only
 rw[show(s.1,s.2)=s from rfl,jmt h]
 simp only[Option.bind_some,ne_eq,not_true_eq_false,decide_false,cond_false]
 by_cases k0:k<1
 ·rw[decide_eq_true k0,cond_true,if_neg]
  unfold sok;simp only;rw[if_neg (by omega),if_neg (by omega),if_neg (by omega)];simp
 rw[decide_eq_false k0,cond_false]
 by_cases k4:3<k
 ·rw[decide_eq_true k4,cond_true,if_neg]
  unfold sok;simp only;rw[if_neg (by omega),if_neg (by omega),if_neg (by omega)];simp
 rw[decide_eq_false k4,cond_false]
 have key:∀b:Bool,b=sok s (k,at_)→(bif(!b) then(some ((([],[]):Sp),(6:Int))) else((jbh jak (s,(k,at_))).bind fun r7=>chk ((jbr (some r7.1.length) r7.1.length)&&(jbr (some r7.2.length) r7.2.length)) (some ((r7.1,r7.2),0))))=some (if sok s (k,at_) then(aft s (k,at_),0) else(([],[]),6)):=fun b hb=>by
  subst hb
  cases e:sok s (k,at_) with
  | false=>rfl
  | true=>rw[jxu h.1 e];simp[jbr,chk]
 by_cases k3:k=3
 ·rw[decide_eq_true k3,cond_true,jzx h.1]
  exact key _ (by rw[k3])
 rw[decide_eq_false k3,cond_false]
 by_cases k2:k=2
 ·rw[decide_eq_true k2,cond_true,jyu h.1]
  exact key _ (by rw[k2])
 rw[decide_eq_false k2,cond_false]
 by_cases k1:k=1
 ·rw[decide_eq_true k1,cond_true,j34 h.1]
  exact key _ (by rw[k1])
 omega
end X
end Go.Vm
namespace Go.Vm
namespace X
open W Go.Proofs.St
def wgt (x:Int):Int:=max 7 (2*x-9)
def jnd:List Int→Int
 | []=>0
 | x::l=>wgt x+jnd l
theorem j2d (x:Int):7≤wgt x:=by unfold wgt;omega
theorem jr5:∀l:List Int,0≤jnd l
 | []=>by simp[jnd]
 | x::l=>by have:=jr5 l;have:=j2d x;simp only[jnd];omega
theorem jg6:∀l m:List Int,jnd (l++m)=jnd l+jnd m
 | [],m=>by simp[jnd]
 | x::l,m=>by simp only[List.cons_append,jnd,jg6 l m];omega
theorem jyg:∀ {l:List Int} {x:Int},x∈l→wgt x≤jnd l
 | y::l,x,h=>by
   simp only[jnd]
   rcases List.mem_cons.1 h with h | h
   ·subst h;have:=jr5 l;omega
   ·have:=jyg h;have:=j2d y;omega
theorem j2e (l:List Int) (n:Nat):jnd (l.take n)≤jnd l:=by
 have:=jg6 (l.take n) (l.drop n);rw[List.take_append_drop] at this;have:=jr5 (l.drop n);omega
theorem j2f (l:List Int) (n:Nat):jnd (l.drop n)≤jnd l:=by
 have:=jg6 (l.take n) (l.drop n);rw[List.take_append_drop] at this;have:=jr5 (l.take n);omega
def Good (s:Sp):Prop:=Dec s∧jnd s.1≤84
theorem kfv {L:List Int} {i:Nat} (h0:0<i) (h:i+1<L.length):L=L.take (i-1)++(L.getD (i-1) 0::L.getD i 0::L.getD (i+1) 0::L.drop (i+2)):=by
 obtain⟨k,rfl⟩:∃k,i=k+1:=⟨i-1,by omega⟩
 have g:∀j,j<L.length→L.drop j=L.getD j 0::L.drop (j+1):=fun j hj=>by
  rw[List.drop_eq_getElem_cons hj,List.getD,List.getElem?_eq_getElem hj];rfl
 rw[Nat.add_sub_cancel,←g (k+2) (by omega),←g (k+1) (by omega),←g k (by omega),List.take_append_drop]
theorem jwl {L:List Int} {i:Nat} (hL:∀x∈L,1≤x) (h0:0<i) (h:i+1<L.length):jnd (L.take (i-1)++([jho L i]++L.drop (i+2)))≤jnd L:=by
 have e:=congrArg jnd (kfv h0 h)
 simp only[jg6,jnd] at e ⊢
 have:=hL _ (jaw (L:=L) (i:=i) (by omega))
 unfold jho
 unfold wgt at *
 omega
theorem Good.bd {L:List Int} (h:jnd L≤84) {x:Int} (hx:x∈L):x≤64:=by
 have:=jyg hx;unfold wgt at this;omega
theorem jeg {s:Sp} (h:Good s) {x:Int×Int} (hx:sok s x=true):Good (aft s x):=by
 obtain⟨⟨⟨h1,h2,h3,h4⟩,h5⟩,h6⟩:=h
 obtain⟨k,at_⟩:=x
 obtain⟨hk,g | g | ⟨g,g2,g3⟩⟩:=jbx hx
 ·simp only at g;subst g
  refine⟨⟨⟨?_,?_,fun x hx=>h3 x (List.mem_of_mem_drop hx),fun x hx=>h4 x (List.mem_of_mem_drop hx)⟩,fun x hx=>h5 x (List.mem_of_mem_drop hx)⟩,Int.le_trans (j2f ..) h6⟩
  all_goals (simp only[aft,if_true,jz7,List.length_drop];omega)
 ·simp only at g;subst g
  refine⟨⟨⟨?_,?_,fun x hx=>h3 x (List.mem_of_mem_take hx),fun x hx=>h4 x (List.mem_of_mem_take hx)⟩,fun x hx=>h5 x (List.mem_of_mem_take hx)⟩,Int.le_trans (j2e ..) h6⟩
  all_goals (simp only[aft,if_true,jz6,List.length_take,show ¬((2:Int)=1) by omega,if_false];omega)
 ·simp only at g g2 g3;subst g
  obtain⟨i,rfl⟩:=Int.eq_ofNat_of_zero_le (show 0≤at_ by omega)
  have e:aft s (3,(i:Int))=jnt s i:=by simp[aft]
  have hw:jnd (jnt s i).1≤84:=Int.le_trans (jwl (fun x hx=>(h3 x hx).1) (by omega) (by omega)) h6
  have hok:cok s i=true:=by simpa[sok] using hx
  have hj:1≤jho s.1 i:=by
   simp only[cok,Bool.and_eq_true,decide_eq_true_eq] at hok
   have:=(h3 _ (jaw (L:=s.1) (i:=i-1) (by omega))).1
   unfold jho;omega
  have mk:∀x∈(jnt s i).2,x∈s.2:=fun x hx=>by
   rcases List.mem_append.1 hx with h | h
   ·exact List.mem_of_mem_take h
   ·exact List.mem_of_mem_drop h
  rw[e]
  refine⟨⟨⟨?_,?_,fun x hx=>⟨?_,Good.bd hw hx⟩,fun x hx=>h4 x (mk x hx)⟩,fun x hx=>h5 x (mk x hx)⟩,hw⟩
  ·simp only[jnt,List.length_append,List.length_take,List.length_drop,List.length_singleton];omega
  ·simp only[jnt,List.length_append,List.length_take,List.length_drop,List.length_singleton];omega
  ·rcases List.mem_append.1 hx with h | h
   ·exact(h3 x (List.mem_of_mem_take h)).1
   rcases List.mem_append.1 h with h | h
   ·rw[List.mem_singleton.1 h];exact hj
   ·exact(h3 x (List.mem_of_mem_drop h)).1
def jrc (L:List Int) (a i:Nat):List Int:=L.take (min i (a-1))++((if a<i then [jho L a] else [])++(L.drop (a+2)).take (i-a-2))
def jgt (K:List Int) (a i:Nat):List Int:=K.take (min i (a-1))++(K.drop (a+1)).take (i-a-1)
theorem j65 (L:List Int) (a i:Nat):(jrc L a i).length≤2*L.length+1:=by
 unfold jrc;split<;>simp<;>omega
theorem j36 (K:List Int) (a i:Nat):(jgt K a i).length≤2*K.length+1:=by
 unfold jgt;simp;omega
theorem kc0 {L:List Int} {a:Nat}:jrc L a 0=[]:=by simp[jrc]
theorem kag {K:List Int} {a:Nat}:jgt K a 0=[]:=by simp[jgt]
theorem j64 {L:List Int} {a i:Nat} (h:i+1<a) (hl:i<L.length):jrc L a (i+1)=jrc L a i++[L.getD i 0]:=by
 unfold jrc
 rw[show min (i+1) (a-1)=i+1 by omega,show min i (a-1)=i by omega,if_neg (by omega),if_neg (by omega),show i+1-a-2=0 by omega,show i-a-2=0 by omega,jhz hl]
 simp
theorem j63 {L:List Int} {a i:Nat} (h:i+1=a∨i=a+1):jrc L a (i+1)=jrc L a i:=by
 unfold jrc
 rcases h with h | h
 ·rw[show min (i+1) (a-1)=a-1 by omega,show min i (a-1)=a-1 by omega,if_neg (by omega),if_neg (by omega),show i+1-a-2=0 by omega,show i-a-2=0 by omega]
 ·rw[show min (i+1) (a-1)=a-1 by omega,show min i (a-1)=a-1 by omega,if_pos (by omega),if_pos (by omega),show i+1-a-2=0 by omega,show i-a-2=0 by omega]
theorem kab {L:List Int} {a:Nat}:jrc L a (a+1)=jrc L a a++[jho L a]:=by
 unfold jrc
 rw[show min (a+1) (a-1)=a-1 by omega,show min a (a-1)=a-1 by omega,if_pos (by omega),if_neg (by omega),show a+1-a-2=0 by omega,show a-a-2=0 by omega]
 simp
theorem j33 {L:List Int} {a i:Nat} (h:a+1<i) (hl:i<L.length):jrc L a (i+1)=jrc L a i++[L.getD i 0]:=by
 unfold jrc
 rw[show min (i+1) (a-1)=a-1 by omega,show min i (a-1)=a-1 by omega,if_pos (by omega),if_pos (by omega),show i+1-a-2=(i-a-2)+1 by omega,jhz (by simp;omega)]
 simp only[List.append_assoc]
 rw[show(L.drop (a+2)).getD (i-a-2) 0=L.getD i 0 by simp only[List.getD,List.getElem?_drop];rw[show a+2+ (i-a-2)=i by omega]]
theorem j66 {L:List Int} {a:Nat} (h0:0<a) (h:a+1<L.length):jrc L a L.length=L.take (a-1)++([jho L a]++L.drop (a+2)):=by
 unfold jrc
 rw[show min L.length (a-1)=a-1 by omega,if_pos (by omega),List.take_of_length_le (l:=L.drop (a+2)) (by simp;omega)]
theorem j35 {L:List Int} {a i:Nat} (h:i+1<a) (hl:i<L.length):jgt L a (i+1)=jgt L a i++[L.getD i 0]:=by
 unfold jgt
 rw[show min (i+1) (a-1)=i+1 by omega,show min i (a-1)=i by omega,show i+1-a-1=0 by omega,show i-a-1=0 by omega,jhz hl]
 simp
theorem ju1 {L:List Int} {a i:Nat} (h:i+1=a∨i=a):jgt L a (i+1)=jgt L a i:=by
 unfold jgt
 rw[show min (i+1) (a-1)=a-1 by omega,show min i (a-1)=a-1 by omega,show i+1-a-1=0 by omega,show i-a-1=0 by omega]
theorem j07 {L:List Int} {a i:Nat} (h:a<i) (hl:i<L.length):jgt L a (i+1)=jgt L a i++[L.getD i 0]:=by
 unfold jgt
 rw[show min (i+1) (a-1)=a-1 by omega,show min i (a-1)=a-1 by omega,show i+1-a-1=(i-a-1)+1 by omega,jhz (by simp;omega)]
 simp only[List.append_assoc]
 rw[show(L.drop (a+1)).getD (i-a-1) 0=L.getD i 0 by simp only[List.getD,List.getElem?_drop];rw[show a+1+ (i-a-1)=i by omega]]
theorem j06 {L:List Int} {a i:Nat} (h:a<i) (hl:L.length≤i):jgt L a (i+1)=jgt L a i:=by
 unfold jgt
 rw[show min (i+1) (a-1)=a-1 by omega,show min i (a-1)=a-1 by omega,List.take_of_length_le (l:=L.drop (a+1)) (by simp;omega),List.take_of_length_le (l:=L.drop (a+1)) (by simp;omega)]
theorem j37 {K:List Int} {a n:Nat} (h:a<n) (hn:K.length≤n):jgt K a n=K.take (a-1)++K.drop (a+1):=by
 unfold jgt
 rw[show min n (a-1)=a-1 by omega,List.take_of_length_le (l:=K.drop (a+1)) (by simp;omega)]
def j74 (s:Sp) (x:Int×Int):Sp×Bool:=if sok s x then(aft s x,true) else(([],[]),false)
theorem jpx {s:Sp} (h:jd3 s) (x:Int×Int):jb5 jak (s,x)=some (j74 s x):=by
 obtain⟨h1,h2,h3,h4⟩:=h
 obtain⟨k,at_⟩:=x
 have g:=fun j (hj:j<s.1.length)=>h3 _ (jaw (L:=s.1) (i:=j) hj)
 apply Ret.eq
 unfold jb5
 dsimp only
 refine jen (fun b=>b=(decide (k=1)&&sok s (k,at_))) (fun b hb=>?_) (fun j hj=>?_)
 case refine_2=>
  refine jac (fun hk=>?_) fun hk=>hj _ (by simp[hk])
  subst hk
  have e:sok s (1,at_)=(decide (at_=0)&&lok s):=by simp[sok]
  refine jac (fun ha=>?_) fun ha=>hj _ (by rw[e];simp[ha])
  refine jac (fun hn=>?_) fun hn=>hj _ (by rw[e];simp[lok];omega)
  refine jaa (jat (by omega) (by omega)) (jaa (jat (by omega) (by omega)) (hj _ ?_))
  rw[e,decide_eq_true ha,lok,decide_eq_true (show 0<s.2.length by omega)];simp
 refine ja7 (fun e=>?_) fun e=>?_
 ·rw[hb,Bool.and_eq_true,decide_eq_true_eq] at e
  obtain⟨hk,e⟩:=e
  subst hk
  obtain⟨hk, -⟩:=jbx e
  refine jaa (by simp[bnb];omega) (jaa (jbg (by simp;omega)) (jaa (by simp[bnb];omega) (jaa (jbg (by simp;omega)) (jal ?_))))
  rw[jed,jed,j74,if_pos e];rfl
 have n1:k=1→sok s (k,at_)=false:=fun h=>by rw[hb,h,decide_eq_true rfl,Bool.true_and] at e;rw[h];exact e
 clear hb e
 refine jen (fun b=>b=(decide (k=2)&&sok s (k,at_))) (fun b hb=>?_) (fun j hj=>?_)
 case refine_2=>
  refine jac (fun hk=>?_) fun hk=>hj _ (by simp[hk])
  subst hk
  have e:sok s (2,at_)=(decide (at_=0)&&rok s):=by simp[sok]
  refine jac (fun ha=>?_) fun ha=>hj _ (by rw[e];simp[ha])
  refine jac (fun hn=>?_) fun hn=>hj _ (by rw[e];simp[rok];omega)
  refine jaa (jah (by omega) (by omega)) (jaa (jat (by omega) (by omega)) (jaa (jah (by omega) (by omega)) (jaa (jat (by omega) (by omega)) (hj _ ?_))))
  rw[e,decide_eq_true ha,rok,decide_eq_true (show 0<s.2.length by omega),show((s.1.length:Int)-1).toNat=s.2.length by omega,show((s.1.length:Int)-2).toNat=s.2.length-1 by omega];simp
 refine ja7 (fun e=>?_) fun e=>?_
 ·rw[hb,Bool.and_eq_true,decide_eq_true_eq] at e
  obtain⟨hk,e⟩:=e
  subst hk
  obtain⟨hk, -⟩:=jbx e
  simp only[List.drop_zero,show((s.1.length:Int)-1).toNat=s.2.length by omega,show((s.1.length:Int)-2).toNat=s.2.length-1 by omega]
  refine jaa (jah (by omega) (by omega)) (jaa (by simp[bnb];omega) (jaa (jbg (by simp;omega)) (jaa (jah (by omega) (by omega)) (jaa (by simp[bnb];omega) (jaa (jbg (by simp;omega)) (jal ?_))))))
  rw[j74,if_pos e];rfl
 have n2:k=2→sok s (k,at_)=false:=fun h=>by rw[hb,h,decide_eq_true rfl,Bool.true_and] at e;rw[h];exact e
 clear hb e
 refine jen (fun b=>b=(decide (k=3)&&sok s (k,at_))) (fun b hb=>?_) (fun j hj=>?_)
 case refine_2=>
  refine jac (fun hk=>?_) fun hk=>hj _ (by simp[hk])
  subst hk
  have e:sok s (3,at_)=(decide (0≤at_)&&cok s at_.toNat):=by simp[sok]
  refine jac (fun ha=>?_) fun ha=>hj _ (by rw[e];simp[cok];omega)
  obtain⟨i,rfl⟩:=Int.eq_ofNat_of_zero_le (show 0≤at_ by omega)
  rw[Int.toNat_natCast] at e
  refine jaa (jah (by omega) (by omega)) ?_
  refine jac (fun hn=>?_) fun hn=>hj _ (by rw[e];simp[cok];omega)
  simp only[Int.toNat_natCast,show((i:Int)-1).toNat=i-1 by omega,show((i:Int)+1).toNat=i+1 by omega]
  refine jaa (jat (by omega) (by omega)) (jaa (jah (by omega) (by omega)) (jaa (jat (by omega) (by omega)) ?_))
  have e2:sok s (3,(i:Int))=(decide (s.1.getD i 0≤s.1.getD (i-1) 0)&&decide (s.1.getD i 0≤s.1.getD (i+1) 0)&&decide (s.2.getD (i-1) 0≠s.2.getD i 0)):=by
   rw[e,cok,decide_eq_true (show 0<i by omega),decide_eq_true (show i<s.2.length by omega)];simp
  rw[e2] at hj
  refine jac (fun hm=>?_) fun hm=>hj _ (by rw[decide_eq_false hm];simp)
  refine jaa (jat (by omega) (by omega)) (jaa (jah (by omega) (by omega)) (jaa (jat (by omega) (by omega)) ?_))
  refine jac (fun hm2=>?_) fun hm2=>hj _ (by rw[decide_eq_false hm2];simp)
  refine jaa (jah (by omega) (by omega)) (jaa (jat (by omega) (by omega)) (jaa (jat (by omega) (by omega)) (hj _ ?_)))
  rw[decide_eq_true hm,decide_eq_true hm2];simp
 refine ja7 (fun e=>?_) fun e=>?_
 ·rw[hb,Bool.and_eq_true,decide_eq_true_eq] at e
  obtain⟨hk,e⟩:=e
  subst hk
  obtain⟨hk,hh | hh | ⟨-,a0,a1⟩⟩:=jbx e
  ·simp at hh
  ·simp at hh
  simp only at a0 a1
  obtain⟨a,rfl⟩:=Int.eq_ofNat_of_zero_le (show 0≤at_ by omega)
  refine jas (Inv:=fun x:Int×(List Int×List Int)=>0≤x.1∧x.1≤s.1.length∧x.2.1=jrc s.1 a x.1.toNat∧x.2.2=jgt s.2 a x.1.toNat) (m:=fun x=>((s.1.length:Int)-x.1).toNat) ?_ _ _ ⟨by simp,by simp,by simp[kc0],by simp[kag]⟩ (by simp only[jak];omega)
  rintro ⟨i,o,p⟩ rec ⟨i1,i2,i3,i4⟩ ih
  simp only at i1 i2 i3 i4 ⊢
  obtain⟨i,rfl⟩:=Int.eq_ofNat_of_zero_le i1
  rw[Int.toNat_natCast] at i3 i4
  have lo:=j65 s.1 a i
  have lp:=j36 s.2 a i
  rw[←i3] at lo
  rw[←i4] at lp
  refine jac (fun hlt=>?_) fun hge=>?_
  ·simp only[Int.toNat_natCast,show((i:Int)-1).toNat=i-1 by omega,show((i:Int)+1).toNat=i+1 by omega]
   refine jen (fun b=>b=decide (i+1<a∨a+1<i)) (fun b hb=>?_) (fun j hj=>?_)
   case refine_2=>
    refine jaa (jah (by omega) (by omega)) (jac (fun h=>hj _ (by rw[decide_eq_true];omega)) fun h=>jaa (jah (by omega) (by omega)) (hj _ (by congr 1;apply propext;omega)))
   refine jen (fun l=>l.1=(if i+1<a∨a+1<i then o++[s.1.getD i 0] else o)∧l.2=p) (fun l hl=>?_) (fun j hj=>?_)
   case refine_2=>
    refine ja7 (fun h=>?_) fun h=>?_
    ·rw[hb,decide_eq_true_eq] at h
     exact jaa (jat (by omega) (by omega)) (jaa (jbg (by omega)) (hj _ ⟨by rw[if_pos h],rfl⟩))
    ·rw[hb,decide_eq_false_iff_not] at h
     exact hj _ ⟨by rw[if_neg h],rfl⟩
   clear hb
   obtain⟨l1,l2⟩:=l
   obtain⟨q1,q2⟩:=hl
   simp only at q1 q2 ⊢
   subst q2
   refine jen (fun l=>l.1=jrc s.1 a (i+1)∧l.2=l2) (fun l hl=>?_) (fun j hj=>?_)
   case refine_2=>
    have ll:l1.length≤1000:=by
     rw[q1]
     split
     ·rw[List.length_append,List.length_singleton];omega
     ·omega
    refine jac (fun h=>?_) fun h=>hj _ ⟨?_,rfl⟩
    ·have h:i=a:=by omega
     subst h
     rw[if_neg (by omega)] at q1
     have g1:=g i (by omega)
     have g2:=g (i-1) (by omega)
     have g3:=g (i+1) (by omega)
     refine jaa (jah (by omega) (by omega)) (jaa (jat (by omega) (by omega)) (jaa (jah (by omega) (by omega)) (jaa (jat (by omega) (by omega)) (jaa (jah (by omega) (by omega)) (jaa (jat (by omega) (by omega)) (jaa (jah (by omega) (by omega)) (jaa (jbg (by omega)) (hj _ ⟨?_,rfl⟩))))))))
     rw[kab,q1,i3];rfl
    ·simp only
     rw[q1]
     by_cases h2:i+1<a
     ·rw[if_pos (by omega),j64 h2 (by omega),i3]
     by_cases h3:a+1<i
     ·rw[if_pos (by omega),j33 h3 (by omega),i3]
     ·rw[if_neg (by omega),j63 (by omega),i3]
   obtain⟨m1,m2⟩:=l
   obtain⟨r1,r2⟩:=hl
   simp only at r1 r2 ⊢
   subst r2
   have nxt:∀q,q=jgt s.2 a (i+1)→Ret (chk (jap ((i:Int)+1)) (rec ((i:Int)+1,(m1,q)))) fun x=>x=j74 s (3,(a:Int)):=fun q hq=>
    jaa (jah (by omega) (by omega)) (ih _ ⟨by simp only;omega,by simp only;omega,by simp only;rw[show((i:Int)+1).toNat=i+1 by omega];exact r1,by simp only;rw[show((i:Int)+1).toNat=i+1 by omega];exact hq⟩ (by simp only;omega))
   refine jaa (jah (by omega) (by omega)) (jac (fun hn=>jaa (jah (by omega) (by omega)) (jac (fun ha=>jac (fun hb=>?_) fun hb=>?_) fun ha=>?_)) fun hn=>?_)
   ·refine jaa (jat (by omega) (by omega)) (jaa (jbg (by omega)) (nxt _ ?_))
    rw[i4]
    by_cases h2:i+1<a
    ·rw[j35 h2 (by omega)]
    ·rw[j07 (by omega) (by omega)]
   ·exact nxt _ (by rw[ju1 (by omega),i4])
   ·exact nxt _ (by rw[ju1 (by omega),i4])
   ·exact nxt _ (by rw[j06 (by omega) (by omega),i4])
  ·refine jal ?_
   rw[j74,if_pos e,i3,i4,show i=s.1.length by omega,j66 (by omega) (by omega),j37 (by omega) (by omega)]
   simp[aft,jnt]
 ·refine jal ?_
  rw[j74,if_neg]
  intro ht
  obtain⟨-,hh | hh | ⟨hh, -, -⟩⟩:=jbx ht
  ·rw[n1 hh] at ht;cases ht
  ·rw[n2 hh] at ht;cases ht
  ·simp only at hh
   rw[hb,hh,decide_eq_true rfl,Bool.true_and] at e
   rw[hh] at ht;rw[e] at ht;cases ht
end X
end Go.Vm
namespace Go.Vm
namespace X
open W Go.Proofs.St
theorem ji2:∀ {l:List Int},(∀x∈l,x≤8)→jnd l≤7*l.length
 | [],_=>by simp[jnd]
 | x::l,h=>by
   have h1:=h x (List.mem_cons_self ..)
   have h2:=ji2 fun y hy=>h y (List.mem_cons_of_mem _ hy)
   simp only[jnd,List.length_cons,wgt];omega
def kfb (s:Sp):Prop:=Good s∧s.1.length≤12∧∀x∈s.1,1≤x∧x≤8
theorem jgs {a:List Int×List Int} (h1:bytes a.1) (h2:bytes a.2):Ret (jcw jak a) kfb:=by
 unfold jcw
 refine jai (jsv (a:=(a.1,a.2)) h1 h2) fun r ⟨q1,q2,q3,q4,q5⟩=>?_
 refine jas (Inv:=fun x:Int×(List Int×Option Nat)=>0≤x.1∧x.1≤r.2.length∧x.2.1.length=r.2.length∧∀i:Nat,i<r.2.length→1≤x.2.1.getD i 0∧x.2.1.getD i 0≤3∧((i:Int)<x.1→x.2.1.getD i 0≠3)) (m:=fun x=>((r.2.length:Int)-x.1).toNat) ?_ _ _ ⟨by simp,by simp,rfl,fun i hi=>?_⟩ (by simp only[jak];omega)
 ·rintro ⟨i,K,o⟩ rec ⟨i1,i2,i3,i4⟩ ih
  simp only at i1 i2 i3 i4 ⊢
  refine jac (fun hlt=>jaa (jat (by omega) (by omega)) (jac (fun h3=>?_) fun h3=>?_)) fun hge=>?_
  ·refine jaa (jat (by omega) (by omega)) (jaa (jah (by omega) (by omega)) (ih _ ⟨by simp only;omega,by simp only;omega,by simp only[List.length_set];exact i3,fun j hj=>?_⟩ (by simp only;omega)))
   simp only
   rw[jfg (by omega)]
   split
   ·omega
   ·have:=i4 j hj;omega
  ·refine jaa (jah (by omega) (by omega)) (ih _ ⟨by simp only;omega,by simp only;omega,i3,fun j hj=>?_⟩ (by simp only;omega))
   have:=i4 j hj
   refine⟨this.1,this.2.1,fun h=>?_⟩
   by_cases hji:(j:Int)=i
   ·rw[←hji,Int.toNat_natCast] at h3;exact h3
   ·exact this.2.2 (by simp only at h;omega)
  ·have hK:∀x∈K,1≤x∧x≤2:=je0 fun j hj=>by have:=i4 j (by omega);omega
   refine jal ⟨⟨⟨⟨by simp only;omega,by simp only;omega,fun x hx=>by have:=q4 x hx;omega,fun x hx=>by have:=hK x hx;omega⟩,fun x hx=>by have:=hK x hx;omega⟩,?_⟩,q2,q4⟩
   have:=ji2 fun x hx=>(q4 x hx).2
   simp only;omega
 ·have:=q5 _ (jaw (L:=r.2) hi)
  exact⟨this.1,this.2,fun h=>absurd h (by simp only;omega)⟩
theorem eta {α β:Type} (x:α×β):(x.1,x.2)=x:=rfl
def jpj:Nat→Sp→List (Int×Int)×Sp
 | 0,s=>([],s)
 | m+1,s=>match ja1 s with
   | []=>([],s)
   | x::_=>(x::(jpj m (aft s x)).1,(jpj m (aft s x)).2)
def jcx (s:Sp):List (Int×Int)×Sp:=jpj s.2.length s
theorem jq5 {s:Sp} {x:Int×Int} (h:x∈ja1 s):sok s x=true:=(List.mem_filter.1 h).2
theorem jay {s:Sp} {x:Int×Int} {t:List (Int×Int)} (h:ja1 s=x::t):sok s x=true:=jq5 (by rw[h];exact List.mem_cons_self ..)
theorem jgk {s:Sp} (h:s.2.length=0):ja1 s=[]:=by
 cases e:ja1 s with
 | nil=>rfl
 | cons x t=>have:=(jbx (jay e)).1;omega
theorem jgb {s:Sp} {x:Int×Int} (hx:sok s x=true):(aft s x).2.length<s.2.length:=by
 obtain⟨hk,h | h | ⟨h,h2,h3⟩⟩:=jbx hx
 ·rw[aft,if_pos h];simp only[jz7,List.length_drop];omega
 ·rw[aft,if_neg (by omega),if_pos h];simp only[jz6,List.length_take];omega
 ·rw[aft,if_neg (by omega),if_neg (by omega)];simp only[jnt,List.length_append,List.length_take,List.length_drop];omega
theorem jzq:∀ {m n:Nat} {s:Sp},s.2.length≤m→s.2.length≤n→jpj m s=jpj n s
 | 0,0,s,_,_=>rfl
 | 0,n+1,s,h,_=>by simp only[jpj];rw[jgk (by omega)]
 | m+1,0,s,_,h=>by simp only[jpj];rw[jgk (by omega)]
 | m+1,n+1,s,h1,h2=>by
   simp only[jpj]
   cases e:ja1 s with
   | nil=>rfl
   | cons x t=>
     have:=jgb (jay e)
     simp only
     rw[jzq (m:=m) (n:=n) (by omega) (by omega)]
theorem jdj {s:Sp} (h:ja1 s=[]):jcx s=([],s):=by
 unfold jcx
 cases s.2.length with
 | zero=>rfl
 | succ n=>simp only[jpj];rw[h]
theorem jey {s:Sp} {x:Int×Int} {t:List (Int×Int)} (h:ja1 s=x::t):jcx s=(x::(jcx (aft s x)).1,(jcx (aft s x)).2):=by
 have h1:=jgb (jay h)
 have h2:jcx s=jpj ((aft s x).2.length+1+ (s.2.length-(aft s x).2.length-1)) s:=by unfold jcx;congr 1;omega
 rw[h2,show(aft s x).2.length+1+ (s.2.length-(aft s x).2.length-1)=(s.2.length-1)+1 by omega]
 simp only[jpj,h]
 rw[jzq (m:=s.2.length-1) (n:=(aft s x).2.length) (by omega) (by omega)]
 rfl
theorem ji8 {P:Sp→Prop} (h0:∀s,ja1 s=[]→P s) (h1:∀s x t,ja1 s=x::t→P (aft s x)→P s):∀s,P s:=by
 have:∀n s,s.2.length≤n→P s:=fun n=>by
  induction n with
  | zero=>intro s hs;exact h0 s (jgk (by omega))
  | succ n ih=>
    intro s hs
    cases e:ja1 s with
    | nil=>exact h0 s e
    | cons x t=>exact h1 s x t e (ih _ (by have:=jgb (jay e);omega))
 exact fun s=>this _ s (Nat.le_refl _)
theorem j1a {s:Sp} (h:Good s):Good (jcx s).2∧ja1 (jcx s).2=[]∧(jcx s).1.length≤s.2.length:=by
 revert h
 refine ji8 (P:=fun s=>Good s→Good (jcx s).2∧ja1 (jcx s).2=[]∧(jcx s).1.length≤s.2.length) ?_ ?_ s
 ·intro s e h;rw[jdj e];exact⟨h,e,by simp⟩
 ·intro s x t e ih h
  rw[jey e]
  have h2:=ih (jeg h (jay e))
  have:=jgb (jay e)
  exact⟨h2.1,h2.2.1,by simp only[List.length_cons];omega⟩
theorem Good.val {s:Sp} (h:Good s):jd3 s:=h.1.1
theorem Good.len {s:Sp} (h:Good s):s.1.length=s.2.length+1∧s.2.length≤31:=by have:=h.1.1;unfold jd3 at this;omega
theorem j0q (s:Sp):(ja1 s).length≤3*s.1.length:=by
 refine Nat.le_trans (List.length_filter_le ..) ?_
 rw[jyy];omega
theorem j5w {s:Sp} (h:Good s):jdk jak s=some ((jcx s).1,((jcx s).2,0)):=by
 unfold jdk
 rw[show(s.1,s.2)=s from rfl,jmt h.1]
 simp only[Option.bind_some,ne_eq,not_true_eq_false,decide_false,cond_false]
 rw[jy4 (by have:=h.len;omega) (by have:=h.len;omega)]
 simp only[Option.bind_some]
 rw[show(s.1,s.2)=s from rfl,jkz h.val]
 simp only[Option.bind_some]
 apply Ret.eq
 refine jas (Inv:=fun x=>Good (x.2.2.1.1,x.2.2.2.1)∧x.2.1.1=ja1 (x.2.2.1.1,x.2.2.2.1)∧x.2.1.2=x.2.1.1.length∧x.2.2.1.2=x.2.2.1.1.length∧x.2.2.2.2=x.2.2.2.1.length∧x.1.length+x.2.2.2.1.length≤40∧jcx s=(x.1++(jcx (x.2.2.1.1,x.2.2.2.1)).1,(jcx (x.2.2.1.1,x.2.2.2.1)).2)) (m:=fun x=>x.2.2.2.1.length) ?_ _ _ ⟨h,rfl,rfl,rfl,rfl,by have:=h.len;simp;omega,by simp⟩ (by have:=h.len;simp only[jak];omega)
 rintro ⟨out,⟨⟨l,c⟩,⟨⟨L,n⟩,⟨K,k⟩⟩⟩⟩ rec ⟨g1,g2,g3,g4,g5,g6,g7⟩ ih
 simp only at g1 g2 g3 g4 g5 g6 g7 ⊢
 subst g3 g4 g5
 simp only[eta]
 cases e:ja1 (L,K) with
 | nil=>
   rw[e] at g2
   subst g2
   rw[jdj e,List.append_nil] at g7
   refine jac (fun hl=>by simp at hl) fun _=>jaa (by simp[bnb]) (jaa (by simp[jbr]) (jal ?_))
   rw[g7,List.take_length]
 | cons x t=>
   rw[e] at g2
   subst g2
   rw[jey e] at g7
   have ha:=jeg g1 (jay e)
   have hl:=jgb (jay e)
   simp only at hl
   refine jac (fun _=>?_) fun hl=>absurd (show(0:Int)< ((x::t).length:Nat) by simp only[List.length_cons];omega) hl
   refine jaa (jat (by omega) (by simp only[List.length_cons];omega)) (jaa (jbg (by omega)) (jaa (jat (by omega) (by simp only[List.length_cons];omega)) ?_))
   rw[List.getD_cons_zero]
   refine jai (Ret.of (jxu g1.val (jay e))) fun r hr=>?_
   subst hr
   refine jai (Ret.of (jkz ha.val)) fun r6 hr=>?_
   subst hr
   refine ih _ ⟨ha,rfl,rfl,rfl,rfl,?_,?_⟩ (by simp only;omega)
   ·simp only[List.length_append,List.length_singleton];omega
   ·simp only;rw[g7,List.append_assoc];rfl
theorem jlw {s:Sp} (h:Good s):ja2 jak s=some (decide ((jcx s).2.2.length=0),0):=by
 unfold ja2
 rw[show(s.1,s.2)=s from rfl,j5w h]
 simp
theorem jl4 {n j i:Nat} (hj:j<3) (hi:i<n):∃rest,jsd n 3=(jsd n j++jnf j i)++(((j:Int)+1,(i:Int))::rest):=by
 have hr:∀k,i+k≤n→∃rest,jnf j (i+k)=jnf j i++rest:=fun k=>by
  induction k with
  | zero=>intro _;exact⟨[],by simp⟩
  | succ k ih=>intro h;obtain⟨r,e⟩:=ih (by omega);exact⟨r++[((j:Int)+1,((i+k:Nat):Int))],by rw[←Nat.add_assoc,jh8,e,List.append_assoc]⟩
 have hr2:∃rest,jnf j n=jnf j i++(((j:Int)+1,(i:Int))::rest):=by
  obtain⟨k,rfl⟩:∃k,n=i+1+k:=⟨n-i-1,by omega⟩
  have:∀k,∃rest,jnf j (i+1+k)=jnf j i++(((j:Int)+1,(i:Int))::rest):=fun k=>by
   induction k with
   | zero=>exact⟨[],by rw[Nat.add_zero,jh8]⟩
   | succ k ih=>obtain⟨r,e⟩:=ih;exact⟨r++[((j:Int)+1,((i+1+k:Nat):Int))],by rw[←Nat.add_assoc,jh8,e,List.append_assoc,List.cons_append]⟩
  exact this k
 obtain⟨rest,e⟩:=hr2
 match j,hj with
 | 0,_=>exact⟨rest++jnf 1 n++jnf 2 n,by simp only[jsd,List.nil_append,e,List.append_assoc,List.cons_append]⟩
 | 1,_=>exact⟨rest++jnf 2 n,by simp only[jsd,List.nil_append,e,List.append_assoc,List.cons_append]⟩
 | 2,_=>exact⟨rest,by simp only[jsd,List.nil_append,e,List.append_assoc,List.cons_append]⟩
theorem jjk {a:(List Int×List Int)×(Int×Int)} (h1:bytes a.1.1) (h2:bytes a.1.2):jcf jak a=some true:=by
 apply Ret.eq
 unfold jcf
 refine jai (jgs (a:=(a.1.1,a.1.2)) h1 h2) fun s hs=>?_
 have hg:Good s:=hs.1
 have hl:=hg.len
 refine jai (Ret.of (jlt hg.1)) fun r hr=>?_
 subst hr
 simp only[show(s.1,s.2)=s from rfl,show(a.2.1,a.2.2)=a.2 from rfl]
 refine jas (Inv:=fun x:Int×Int=>1≤x.2∧x.2≤4∧x.1=((jsd s.1.length (x.2-1).toNat).filter (sok s)).length) (m:=fun x=>(4-x.2).toNat) ?_ _ _ ⟨by simp,by simp,rfl⟩ (by simp[jak])
 rintro ⟨at_,k⟩ rec ⟨i1,i2,i3⟩ ih
 simp only at i1 i2 i3 ⊢
 refine jac (fun hk=>?_) fun hk=>?_
 ·obtain⟨j,rfl⟩:∃j:Nat,k=(j:Int)+1:=⟨(k-1).toNat,by omega⟩
  rw[show(((j:Int)+1)-1).toNat=j by omega] at i3
  rw[jr4 (by omega) (by omega)]
  refine jas (Inv:=fun x:Int×Int=>0≤x.2∧x.2≤s.1.length∧x.1=((jsd s.1.length j++jnf j x.2.toNat).filter (sok s)).length) (m:=fun x=>((s.1.length:Int)-x.2).toNat) ?_ _ _ ⟨by simp,by simp,by simp[i3,jnf,idL]⟩ (by simp only[jak];omega)
  rintro ⟨c,i⟩ rec2 ⟨g1,g2,g3⟩ ih2
  simp only at g1 g2 g3 ⊢
  refine jac (fun hi=>?_) fun hi=>?_
  ·obtain⟨i,rfl⟩:=Int.eq_ofNat_of_zero_le g1
   rw[Int.toNat_natCast] at g3
   have es:(jsd s.1.length j++jnf j (i+1)).filter (sok s)=(jsd s.1.length j++jnf j i).filter (sok s)++if sok s ((j:Int)+1,(i:Int)) then [((j:Int)+1,(i:Int))] else []:=by
    rw[jh8,←List.append_assoc,List.filter_append,jrj]
   obtain⟨rest,er⟩:=jl4 (n:=s.1.length) (j:=j) (i:=i) (by omega) (by omega)
   have el:ja1 s=(jsd s.1.length j++jnf j i).filter (sok s)++(((j:Int)+1,(i:Int))::rest).filter (sok s):=by rw[ja1,er,List.filter_append]
   refine jai (Ret.of (jpx hg.val ((j:Int)+1,(i:Int)))) fun r5 hr=>?_
   subst hr
   refine jai (Ret.of (j79 hg.1 ((j:Int)+1,(i:Int)))) fun r6 hr=>?_
   subst hr
   unfold j74
   cases e:sok s ((j:Int)+1,(i:Int)) with
   | false=>
     rw[if_neg (by simp),if_neg (by simp)]
     rw[e,if_neg (by simp),List.append_nil] at es
     refine ja7 (fun _=>?_) fun h=>by simp at h
     refine jac (fun h=>absurd rfl h) fun _=>jac (fun h=>absurd rfl h) fun _=>jaa (jah (by omega) (by omega)) (ih2 _ ⟨by simp only;omega,by simp only;omega,?_⟩ (by simp only;omega))
     simp only
     rw[show((i:Int)+1).toNat=i+1 by omega,es];exact g3
   | true=>
     rw[if_pos rfl,if_pos rfl]
     rw[e,if_pos rfl] at es
     rw[List.filter_cons,e,if_pos rfl] at el
     have jbj:c< ((ja1 s).length:Int):=by rw[g3,el];simp only[List.length_append,List.length_cons];omega
     have hgd:(ja1 s).getD c.toNat (0,0)=((j:Int)+1,(i:Int)):=by
      rw[g3,el,Int.toNat_natCast,List.getD,List.getElem?_append_right (Nat.le_refl _)];simp
     have ha:=jeg hg e
     have hal:=ha.len
     have hsl:=j0q s
     refine ja7 (fun h=>by simp at h) fun _=>jac (fun h=>absurd rfl h) fun _=>?_
     refine jai (Ret.of (jug (a:=aft s ((j:Int)+1,(i:Int))) (by omega) (by omega))) fun r7 hr=>?_
     subst hr
     refine ja7 (fun h=>by simp at h) fun _=>jac (fun h=>absurd rfl h) fun _=>jac (fun h=>absurd rfl h) fun _=>jac (fun h=>absurd h (by omega)) fun _=>?_
     refine jaa (jat (by omega) (by omega)) (ja7 (fun h=>?_) fun _=>?_)
     ·rw[hgd] at h;simp at h
     ·refine jaa (jah (by omega) (by omega)) (jaa (jah (by omega) (by omega)) (ih2 _ ⟨by simp only;omega,by simp only;omega,?_⟩ (by simp only;omega)))
      simp only
      rw[show((i:Int)+1).toNat=i+1 by omega,es,g3,List.length_append];simp
  ·refine jaa (jah (by omega) (by omega)) (ih _ ⟨by simp only;omega,by simp only;omega,?_⟩ (by simp only;omega))
   simp only
   rw[g3,show i.toNat=s.1.length by omega,show(((j:Int)+1)+1-1).toNat=j+1 by omega]
   rfl
 ·rw[show(k-1).toNat=3 by omega] at i3
  have i3:at_=(ja1 s).length:=i3
  refine jai (Ret.of (jpx hg.val a.2)) fun r8 hr=>?_
  subst hr
  refine jai (Ret.of (j79 hg.1 a.2)) fun r9 hr=>?_
  subst hr
  refine jac (fun _=>jac (fun _=>jac (fun _=>?_) fun h=>absurd trivial h) fun h=>absurd i3 h) fun h=>absurd trivial h
  unfold j74
  cases e:sok s a.2 with
  | true=>
    rw[if_pos rfl,if_pos rfl]
    refine ja7 (fun _=>ja7 (fun _=>jai (Ret.of jev) fun r hr=>jal hr) fun h=>by simp at h) fun h=>by simp at h
  | false=>
    rw[if_neg (by simp),if_neg (by simp)]
    refine ja7 (fun _=>ja7 (fun h=>by simp at h) fun _=>jac (fun _=>jai (Ret.of jev) fun r hr=>jal hr) fun h=>absurd rfl h) fun h=>by simp at h
theorem jkm {a:List Int×List Int} (h1:bytes a.1) (h2:bytes a.2):jcu jak a=some true:=by
 apply Ret.eq
 unfold jcu
 refine jai (jgs (a:=(a.1,a.2)) h1 h2) fun s hs=>?_
 have hg:Good s:=hs.1
 have hl:=hg.len
 simp only[eta]
 refine jai (Ret.of (j5w hg)) fun r hr=>?_
 subst hr
 refine jai (Ret.of (jlw hg)) fun r hr=>?_
 subst hr
 obtain⟨f1,f2,f3⟩:=j1a hg
 refine jen (fun b=>b=false) (fun b hb=>?_) (fun j hj=>?_)
 case refine_2=>
  refine jac (fun h=>absurd rfl h) fun _=>jac (fun h=>absurd rfl h) fun _=>jac (fun h=>absurd rfl h) fun _=>hj _ (decide_eq_false (by simp only;omega))
 subst hb
 rw[cond_false]
 simp only
 refine jas (Inv:=fun x:Int×(List Int×List Int)=>0≤x.1∧x.1≤(jcx s).1.length∧Good x.2∧(jcx s).1.drop x.1.toNat=(jcx x.2).1∧(jcx s).2=(jcx x.2).2) (m:=fun x=>(((jcx s).1.length:Int)-x.1).toNat) ?_ _ _ ⟨by simp,by simp,hg,by simp,rfl⟩ (by simp only[jak];omega)
 rintro ⟨i,c⟩ rec ⟨i1,i2,i3,i4,i5⟩ ih
 simp only at i1 i2 i3 i4 i5 ⊢
 refine jac (fun hlt=>?_) fun hge=>?_
 ·refine jai (Ret.of (jlt i3.1)) fun r hr=>?_
  subst hr
  cases e:ja1 c with
  | nil=>
    rw[jdj e] at i4
    have:=congrArg List.length i4
    rw[List.length_drop] at this
    simp only[List.length_nil] at this
    omega
  | cons x t=>
    rw[jey e] at i4 i5
    have hgd:(jcx s).1.getD i.toNat (0,0)=x:=by
     rw[List.getD,←List.head?_drop,i4];rfl
    have hd:(jcx s).1.drop (i+1).toNat=(jcx (aft c x)).1:=by
     rw[show(i+1).toNat=i.toNat+1 by omega,←List.drop_drop,i4];rfl
    refine jen (fun b=>b=false) (fun b hb=>?_) (fun j hj=>?_)
    case refine_2=>
     refine jac (fun h=>absurd rfl h) fun _=>jac (fun h=>absurd h (by simp only[List.length_cons];omega)) fun _=>jaa (jat (by omega) (by simp only[List.length_cons];omega)) (jaa (jat (by omega) (by omega)) (hj _ ?_))
     rw[hgd];simp
    subst hb
    rw[cond_false]
    refine jaa (jat (by omega) (by omega)) ?_
    rw[hgd]
    refine jai (Ret.of (jpx i3.val x)) fun r hr=>?_
    subst hr
    rw[j74,if_pos (jay e)]
    exact ja7 (fun h=>by simp at h) fun _=>jaa (jah (by omega) (by omega)) (ih _ ⟨by simp only;omega,by simp only;omega,jeg i3 (jay e),hd,i5⟩ (by simp only;omega))
 ·cases e:ja1 c with
  | cons x t=>
    rw[jey e] at i4
    have:=congrArg List.length i4
    rw[List.length_drop] at this
    simp only[List.length_cons] at this
    omega
  | nil=>
    rw[jdj e] at i5
    simp only at i5
    rw[i5]
    refine jai (Ret.of (jlt i3.1)) fun r hr=>?_
    subst hr
    have hcl:=i3.len
    refine jac (fun _=>jac (fun _=>?_) fun h=>absurd (by rw[e];rfl) h) fun h=>absurd rfl h
    refine jai (Ret.of (jug (a:=c) (by omega) (by omega))) fun r hr=>?_
    subst hr
    rw[cond_true]
    refine ja7 (fun _=>jai (Ret.of jev) fun r hr=>jal hr) fun h=>?_
    exfalso
    have:decide (c.2.length=0)=decide (((c.1.length:Nat):Int)=1):=by congr 1;apply propext;omega
    rw[this] at h;simp at h
end X
end Go.Vm
namespace Go.Vm
namespace X
open W Go.Proofs.St
def jg5 (p:List Int) (k d:Int):List Int:=p.map fun x=>if k≤x then x+d else x
def abv (s:Sp) (c:Nat):Bool:=decide (s.2.getD c 0=2)==decide (c%2=0)
theorem jrs {p:List Int} {k d:Int} (hp:∀x∈p,0≤x∧x≤1000) (hl:p.length≤1000) (hd:0≤d∧d≤2):jc5 jak (p,(k,d))=some (jg5 p k d):=by
 apply Ret.eq
 unfold jc5
 refine jai (Ret.of (jpq (a:=p) (by omega))) fun r hr=>?_
 rw[show r=p from hr]
 refine jas (Inv:=fun x:Int×(List Int×Option Nat)=>0≤x.1∧x.1≤p.length∧x.2.1.length=p.length∧∀j:Nat,j<p.length→x.2.1.getD j 0=if(j:Int)<x.1 then(if k≤p.getD j 0 then p.getD j 0+d else p.getD j 0) else p.getD j 0) (m:=fun x=>((p.length:Int)-x.1).toNat) ?_ _ _ ⟨by simp,by simp,rfl,fun j hj=>by rw[if_neg (by simp only;omega)]⟩ (by simp only[jak];omega)
 rintro ⟨i,l,o⟩ rec ⟨i1,i2,i3,i4⟩ ih
 simp only at i1 i2 i3 i4 ⊢
 refine jac (fun hlt=>?_) fun hge=>jal ?_
 ·have hi:=i4 i.toNat (by omega)
  rw[if_neg (by omega)] at hi
  have hb:=hp _ (jaw (L:=p) (i:=i.toNat) (by omega))
  rw[hi]
  refine jaa (jat (by omega) (by omega)) (jac (fun hk=>?_) fun hk=>?_)
  ·refine jaa (jah (by omega) (by omega)) (jaa (jat (by omega) (by omega)) (jaa (jah (by omega) (by omega)) (ih _ ⟨by simp only;omega,by simp only;omega,by simp only[List.length_set];exact i3,fun j hj=>?_⟩ (by simp only;omega))))
   simp only
   rw[jfg (by omega)]
   by_cases hji:j=i.toNat
   ·rw[if_pos hji,if_pos (show(j:Int)<i+1 by omega),hji,if_pos hk]
   ·rw[if_neg hji,i4 j hj]
    by_cases hj2:(j:Int)<i
    ·rw[if_pos hj2,if_pos (show(j:Int)<i+1 by omega)]
    ·rw[if_neg hj2,if_neg (show ¬(j:Int)<i+1 by omega)]
  ·refine jaa (jah (by omega) (by omega)) (ih _ ⟨by simp only;omega,by simp only;omega,i3,fun j hj=>?_⟩ (by simp only;omega))
   simp only
   by_cases hji:j=i.toNat
   ·rw[hji,hi,if_pos (show((i.toNat:Nat):Int)<i+1 by omega),if_neg hk]
   ·rw[i4 j hj]
    by_cases hj2:(j:Int)<i
    ·rw[if_pos hj2,if_pos (show(j:Int)<i+1 by omega)]
    ·rw[if_neg hj2,if_neg (show ¬(j:Int)<i+1 by omega)]
 ·refine jzt (by simp[jg5,i3]) fun j hj=>?_
  rw[i4 j (by omega),if_pos (show(j:Int)<i by omega)]
  have hj':j<p.length:=by omega
  have e1:p.getD j 0=p[j]:=by simp[List.getD,List.getElem?_eq_getElem hj']
  have e2:(jg5 p k d).getD j 0=if k≤p[j] then p[j] +d else p[j]:=by simp[jg5,List.getD,List.getElem?_eq_getElem hj']
  rw[e1,e2]
theorem jtu {s:Sp} {c:Int} (h0:0≤c) (h1:c<s.2.length):jde jak (s,c)=some (abv s c.toNat):=by
 unfold jde
 dsimp only
 rw[ja8 (jat h0 h1),ja8 (by rw[Bool.and_eq_true];exact⟨decide_eq_true h0,rfl⟩)]
 unfold abv
 congr 2
 apply decide_eq_decide.2
 omega
theorem js2 {p:List Int} {v:Int} (hm:v∈p) (hl:p.length≤1000):jax jak (p,v)=some ((p.idxOf v:Nat):Int):=by
 apply Ret.eq
 unfold jax
 dsimp only
 have hlt:=List.idxOf_lt_length_iff.2 hm
 refine jas (Inv:=fun x:Int=>0≤x∧x≤(p.idxOf v:Nat)) (m:=fun x=>(((p.idxOf v:Nat):Int)-x).toNat) ?_ _ _ ⟨by omega,by omega⟩ (by simp only[jak];omega)
 intro x rec ⟨i1,i2⟩ ih
 obtain⟨x,rfl⟩:=Int.eq_ofNat_of_zero_le i1
 rw[Int.toNat_natCast]
 refine jac (fun _=>jaa (jat (by omega) (by omega)) (jac (fun he=>jal ?_) fun he=>?_)) fun h=>absurd (by omega) h
 ·have h1:p.getD x 0=p[x]'(by omega):=by rw[List.getD,List.getElem?_eq_getElem (by omega)];rfl
  by_cases hx:x=p.idxOf v
  ·rw[hx]
  ·have hlt2:x<p.idxOf v:=by omega
   have:=List.not_of_lt_findIdx (p:=(·==v)) (xs:=p) (i:=x) hlt2
   simp at this
   exact absurd (h1.symm.trans he.symm) this
 ·have hx:x≠p.idxOf v:=fun hx=>he (by
   rw[hx,List.getD,List.getElem?_eq_getElem hlt]
   exact(List.getElem_idxOf hlt).symm)
  exact jaa (jah (by omega) (by omega)) (ih _ ⟨by omega,by omega⟩ (by omega))
theorem j8l {r:List Int} {o:Option Nat} {β:Type} {Q:β→Prop} {K:List Int×Option Nat→Option β} (hr:r.length≤10000) (hK:∀o,Ret (K (r.reverse,o)) Q):
  Ret (jbe (fun(rec2:Int×(Int×((List Int)×Option Nat))→Option β) (x2:(Int×(Int×((List Int)×Option Nat))))=>bif(decide (x2.1<x2.2.1)) then(chk (inb x2.2.1 x2.2.2.1.length) (chk (inb x2.1 x2.2.2.1.length) (chk (inb x2.1 x2.2.2.1.length) (chk (inb x2.2.1 (x2.2.2.1.set x2.1.toNat (x2.2.2.1.getD x2.2.1.toNat 0)).length) (chk (jap (x2.1+1)) (chk (jap (x2.2.1-1)) (rec2 ((x2.1+1),((x2.2.1-1),(((x2.2.2.1.set x2.1.toNat (x2.2.2.1.getD x2.2.1.toNat 0)).set x2.2.1.toNat (x2.2.2.1.getD x2.1.toNat 0)),x2.2.2.2)))))))))) else K (x2.2.2.1,x2.2.2.2)) jak (0,((((r.length:Nat):Int)-1),(r,o)))) Q:=by
 refine jas (Inv:=fun x:Int×(Int×((List Int)×Option Nat))=>0≤x.1∧x.2.1=(r.length:Int)-1-x.1∧2*x.1≤r.length+1∧x.2.2.1.length=r.length∧∀k:Nat,k<r.length→x.2.2.1.getD k 0=if(k:Int)<x.1∨x.2.1< (k:Int) then r.getD (r.length-1-k) 0 else r.getD k 0) (m:=fun x=>(x.2.1-x.1+1).toNat) ?_ _ _ ⟨by simp,by simp,by simp only;omega,rfl,fun k hk=>?_⟩ (by simp only[jak];omega)
 ·rintro ⟨i,j,l,c⟩ rec ⟨i1,i2,i3,i4,i5⟩ ih
  simp only at i1 i2 i3 i4 i5 ⊢
  refine jac (fun hlt=>?_) fun hge=>?_
  ·refine jaa (jat (by omega) (by omega)) (jaa (jat (by omega) (by omega)) (jaa (jat (by omega) (by omega)) (jaa (jat (by omega) (by rw[List.length_set];omega)) (jaa (jah (by omega) (by omega)) (jaa (jah (by omega) (by omega)) (ih _ ⟨by simp only;omega,by simp only;omega,by simp only;omega,by simp only[List.length_set];exact i4,fun k hk=>?_⟩ (by simp only;omega)))))))
   simp only
   rw[jfg (by rw[List.length_set];omega),jfg (by omega)]
   have e1:=i5 i.toNat (by omega)
   have e2:=i5 j.toNat (by omega)
   rw[if_neg (by omega)] at e1 e2
   by_cases h1:k=j.toNat
   ·rw[if_pos h1,e1,if_pos (by omega)]
    congr 1;omega
   ·rw[if_neg h1]
    by_cases h2:k=i.toNat
    ·rw[if_pos h2,e2,if_pos (by omega)]
     congr 1;omega
    ·rw[if_neg h2,i5 k hk]
     by_cases h3:(k:Int)<i∨j< (k:Int)
     ·rw[if_pos h3,if_pos (by omega)]
     ·rw[if_neg h3,if_neg (by omega)]
  ·have hle:l=r.reverse:=by
    refine jzt (by simp[i4]) fun k hk=>?_
    rw[i5 k (by omega),jm6 (by omega)]
    by_cases h3:(k:Int)<i∨j< (k:Int)
    ·rw[if_pos h3]
    ·rw[if_neg h3]
     congr 1;omega
   subst hle
   exact hK c
 ·simp only
  rw[if_neg (by omega)]
end X
end Go.Vm
namespace Go.Vm
namespace X
open W Go.Proofs.St
def OrdP (n:Nat) (p:List Int):Prop:=p.Perm (idL n)
theorem OrdP.len {n:Nat} {p:List Int} (h:OrdP n p):p.length=n:=by rw[List.Perm.length_eq h,js5]
theorem OrdP.in {n:Nat} {p:List Int} (h:OrdP n p):∀x∈p,0≤x∧x<n:=fun x hx=>jkk.1 ((List.Perm.mem_iff h).1 hx)
theorem OrdP.mem {n:Nat} {p:List Int} (h:OrdP n p) {x:Int} (h0:0≤x) (h1:x<n):x∈p:=(List.Perm.mem_iff h).2 (jkk.2 ⟨h0,h1⟩)
def jfe (s:Sp) (x:Int×Int) (p:List Int):List Int:=
 if x.1=1 then jhv (jg5 p 0 1).reverse ((jg5 p 0 1).reverse.idxOf 1+if abv s 0 then 0 else 1) ((jg5 p 0 1).reverse.idxOf 1+if abv s 0 then 0 else 1) [0]
 else if x.1=2 then jhv p (p.idxOf ((s.2.length:Int)-1)+if abv s (s.2.length-1) then 1 else 0) (p.idxOf ((s.2.length:Int)-1)+if abv s (s.2.length-1) then 1 else 0) [(s.2.length:Int)]
 else jhv (jg5 p x.2 2) (p.idxOf (x.2-1)) (p.idxOf (x.2-1)+1) (if abv s (x.2.toNat-1) then [x.2-1,x.2,x.2+1] else [x.2+1,x.2,x.2-1])
theorem j4a {L V:List Int} {i k:Nat} (h1:1≤L.length) (h2:L.length≤1000) (v1:1≤V.length) (v2:V.length≤1000) (hi:i≤k) (hk:k≤L.length) (hik:i=k∨k<i+V.length):j8s (L,((i:Int),((k:Int),V)))=some (jhv L i k V):=by
 unfold j8s
 have e:(decide ((0:Int)≤(i:Int))&&decide ((i:Int)≤(k:Int))&&inb (k:Int) (L.length+1)&&(1:Nat).ble L.length&&L.length.ble 1000000&&(1:Nat).ble V.length&&V.length.ble 1000&&(decide ((i:Int)=(k:Int))||decide ((k:Int)< (i:Int)+V.length)))=true:=by
  rw[jat (by omega) (by omega)]
  simp only[Bool.and_eq_true,Bool.or_eq_true,decide_eq_true_eq,Nat.ble_eq]
  refine⟨⟨⟨⟨⟨⟨⟨by omega,by omega⟩,trivial⟩,h1⟩,by omega⟩,v1⟩,v2⟩,by omega⟩
 simp only
 rw[e];simp
theorem j39 {L V:List Int} {i:Int} (h1:1≤L.length) (h2:L.length≤1000) (v1:1≤V.length) (v2:V.length≤1000) (h0:0≤i) (hi:i≤L.length):ja9 jak (L,(i,V))=some (jhv L i.toNat i.toNat V):=by
 obtain⟨i,rfl⟩:=Int.eq_ofNat_of_zero_le h0
 have hi:i≤L.length:=by omega
 exact j4a h1 h2 v1 v2 (Nat.le_refl _) hi (.inl rfl)
theorem j2h {s:Sp} (hs:Good s) (hk:0<s.2.length) {at_:Int} {p:List Int} (hp:OrdP s.2.length p):jc4 jak (s,((1,at_),p))=some (jfe s (1,at_) p):=by
 have hl:=hs.len
 have pl:=hp.len
 have pin:=hp.in
 have cl:(jg5 p 0 1).length=s.2.length:=by simp[jg5,pl]
 apply Ret.eq
 unfold jc4
 dsimp only
 rw[decide_eq_true rfl,cond_true]
 refine jai (Ret.of (jrs (p:=p) (k:=0) (d:=1) (fun x hx=>by have:=pin x hx;omega) (by omega) (by omega))) fun r hr=>?_
 rw[show r=jg5 p 0 1 from hr]
 refine jaa (jah (by omega) (by omega)) ?_
 refine j8l (o:=none) (K:=fun l=>(jax jak (l.1,1)).bind fun r3=>(jde jak ((s.1,s.2),0)).bind fun r4=>bif(!r4) then(chk (jap (r3+1)) ((ja9 jak (l.1,((r3+1),[0]))).bind fun r5=>some r5)) else((ja9 jak (l.1,(r3,[0]))).bind fun r6=>some r6)) (by omega) fun o=>?_
 have m1:(1:Int)∈(jg5 p 0 1).reverse:=by
  rw[List.mem_reverse]
  exact List.mem_map.2 ⟨0,hp.mem (by omega) (by omega),by simp⟩
 have il:=List.idxOf_lt_length_iff.2 m1
 have rl:(jg5 p 0 1).reverse.length=s.2.length:=by rw[List.length_reverse,cl]
 dsimp only
 refine jai (Ret.of (js2 m1 (by omega))) fun r3 hr3=>?_
 subst hr3
 refine jai (Ret.of (jtu (s:=(s.1,s.2)) (c:=0) (by omega) (by simp only;omega))) fun r4 hr4=>?_
 have hr4:r4=abv s 0:=hr4
 subst hr4
 cases hb:abv s 0 with
 | true=>
   refine ja7 (fun h=>by simp at h) fun _=>jai (Ret.of (j39 (by omega) (by omega) (by simp) (by simp) (by omega) (by omega))) fun r hr=>jal ?_
   rw[hr,Int.toNat_natCast]
   simp[jfe,hb]
 | false=>
   refine ja7 (fun _=>jaa (jah (by omega) (by omega)) (jai (Ret.of (j39 (by omega) (by omega) (by simp) (by simp) (by omega) (by omega))) fun r hr=>jal ?_)) fun h=>by simp at h
   rw[hr]
   rw[show((((jg5 p 0 1).reverse.idxOf 1:Nat):Int)+1).toNat=(jg5 p 0 1).reverse.idxOf 1+1 by omega]
   simp[jfe,hb]
theorem j0n {s:Sp} (hs:Good s) (hk:0<s.2.length) {at_:Int} {p:List Int} (hp:OrdP s.2.length p):jc4 jak (s,((2,at_),p))=some (jfe s (2,at_) p):=by
 have hl:=hs.len
 have pl:=hp.len
 apply Ret.eq
 unfold jc4
 dsimp only
 rw[decide_eq_false (by omega),cond_false,decide_eq_true rfl,cond_true]
 have m1:((s.2.length:Int)-1)∈p:=hp.mem (by omega) (by omega)
 have il:=List.idxOf_lt_length_iff.2 m1
 refine jaa (jah (by omega) (by omega)) (jai (Ret.of (js2 m1 (by omega))) fun r3 hr3=>?_)
 subst hr3
 refine jaa (jah (by omega) (by omega)) (jai (Ret.of (jtu (s:=(s.1,s.2)) (c:=(s.2.length:Int)-1) (by omega) (by simp only;omega))) fun r4 hr4=>?_)
 have hr4:r4=abv s (s.2.length-1):=by rw[hr4];show abv s _=_;congr 1;omega
 subst hr4
 refine jen (fun i=>i=((p.idxOf ((s.2.length:Int)-1)+if abv s (s.2.length-1) then 1 else 0:Nat):Int)) (fun i hi=>?_) (fun j hj=>?_)
 ·refine jai (Ret.of (jpq (a:=p) (by omega))) fun r hr=>?_
  rw[show r=p from hr]
  have hi2:0≤i∧i≤p.length:=by rw[hi];split<;>omega
  refine jai (Ret.of (j39 (by omega) (by omega) (by simp) (by simp) hi2.1 hi2.2)) fun r hr=>jal ?_
  rw[hr,hi,Int.toNat_natCast]
  simp[jfe]
 ·cases hb:abv s (s.2.length-1) with
  | true=>exact ja7 (fun _=>jaa (jah (by omega) (by omega)) (hj _ (by simp[hb]))) fun h=>by simp at h
  | false=>exact ja7 (fun h=>by simp at h) fun _=>hj _ (by simp[hb])
theorem kcq {L V:List Int} {i k:Int} (h1:1≤L.length) (h2:L.length≤1000) (v1:1≤V.length) (v2:V.length≤1000) (h0:0≤i) (hi:i<k) (hk:k≤L.length) (hv:k<i+V.length):jb3 jak (L,(i,(k,V)))=some (jhv L i.toNat k.toNat V):=by
 obtain⟨i,rfl⟩:=Int.eq_ofNat_of_zero_le h0
 obtain⟨k,rfl⟩:=Int.eq_ofNat_of_zero_le (show 0≤k by omega)
 unfold jb3
 dsimp only
 rw[decide_eq_false (by omega),cond_false,j4a h1 h2 v1 v2 (by omega) (by omega) (.inr (by omega))]
 simp
theorem j0o {s:Sp} (hs:Good s) {c:Nat} (hc:c+1<s.2.length) {k:Int} (k1:k≠1) (k2:k≠2) {p:List Int} (hp:OrdP (s.1.length-2) p):jc4 jak (s,((k,(c:Int)+1),p))=some (jfe s (k,(c:Int)+1) p):=by
 have hl:=hs.len
 have pl:=hp.len
 have pin:=hp.in
 have cl:(jg5 p ((c:Int)+1) 2).length=p.length:=by simp[jg5]
 apply Ret.eq
 unfold jc4
 dsimp only
 rw[decide_eq_false k1,cond_false,decide_eq_false k2,cond_false]
 have e1:(c:Int)+1-1=c:=by omega
 rw[e1]
 have m1:(c:Int)∈p:=hp.mem (by omega) (by omega)
 have il:=List.idxOf_lt_length_iff.2 m1
 refine jaa (jah (by omega) (by omega)) (jai (Ret.of (js2 m1 (by omega))) fun r3 hr3=>?_)
 subst hr3
 refine jaa (jah (by omega) (by omega)) (jaa (jah (by omega) (by omega)) (jaa (jah (by omega) (by omega)) (jai (Ret.of (jtu (s:=(s.1,s.2)) (c:=(c:Int)) (by omega) (by simp only;omega))) fun r4 hr4=>?_)))
 have hr4:r4=abv s c:=hr4
 subst hr4
 refine jen (fun l=>l.1=if abv s c then [(c:Int),(c:Int)+1,(c:Int)+1+1] else [(c:Int)+1+1,(c:Int)+1,(c:Int)]) (fun l hl'=>?_) (fun j hj=>?_)
 ·refine jai (Ret.of (jrs (p:=p) (k:=(c:Int)+1) (d:=2) (fun x hx=>by have:=pin x hx;omega) (by omega) (by omega))) fun r hr=>?_
  rw[show r=jg5 p ((c:Int)+1) 2 from hr]
  refine jaa (jah (by omega) (by omega)) ?_
  have hv:l.1.length=3:=by rw[hl'];split<;>rfl
  refine jai (Ret.of (kcq (by omega) (by omega) (by omega) (by omega) (by omega) (by omega) (by omega) (by omega))) fun r hr=>jal ?_
  rw[hr,Int.toNat_natCast,show(((p.idxOf (c:Int):Nat):Int)+1).toNat=p.idxOf (c:Int)+1 by omega,hl']
  simp only[jfe,if_neg k1,if_neg k2,e1,show(((c:Int)+1).toNat-1)=c by omega]
 ·cases hb:abv s c with
  | true=>exact ja7 (fun h=>by simp at h) fun _=>hj _ (by simp[hb])
  | false=>
    refine ja7 (fun _=>?_) fun h=>by simp at h
    refine j8l (r:=[(c:Int),(c:Int)+1,(c:Int)+1+1]) (o:=some 3) (K:=j) (by simp) fun o=>hj _ (by simp[hb])
theorem j86 {s:Sp} (hs:Good s) {x:Int×Int} (hx:sok s x=true) {p:List Int} (hp:OrdP (aft s x).1.length p):jc4 jak (s,(x,p))=some (jfe s x p):=by
 obtain⟨k,at_⟩:=x
 have hl:=hs.len
 obtain⟨hk,g | g | ⟨g,g2,g3⟩⟩:=jbx hx
 ·simp only at g;subst g
  have e:(aft s (1,at_)).1.length=s.2.length:=by simp only[aft,if_true,jz7,List.length_drop];omega
  rw[e] at hp
  exact j2h hs hk hp
 ·simp only at g;subst g
  have e:(aft s (2,at_)).1.length=s.2.length:=by simp only[aft,if_true,jz6,List.length_take,show ¬((2:Int)=1) by omega,if_false];omega
  rw[e] at hp
  exact j0n hs hk hp
 ·simp only at g g2 g3;subst g
  obtain⟨c,rfl⟩:∃c:Nat,at_=(c:Int)+1:=⟨(at_-1).toNat,by omega⟩
  have e:(aft s (3,(c:Int)+1)).1.length=s.1.length-2:=by
   have:((c:Int)+1).toNat=c+1:=by omega
   simp only[aft,show ¬((3:Int)=1) by omega,show ¬((3:Int)=2) by omega,if_false,this,jnt,List.length_append,List.length_take,List.length_drop,List.length_singleton,Nat.add_sub_cancel];omega
  rw[e] at hp
  exact j0o hs (by omega) (by omega) (by omega) hp
end X
end Go.Vm
namespace Go.Vm
namespace X
open W Go.Proofs.St
theorem jsy {L V:List Int} {i k:Nat} (hi:i≤L.length) (hk:k≤L.length):(jhv L i k V).length=i+V.length+ (L.length-k):=by
 simp only[jhv,List.length_append,List.length_take,List.length_drop];omega
theorem jy8 {L V:List Int} {i:Nat} {x:Int} (h:x∈V∨x∈L):x∈jhv L i i V:=by
 unfold jhv
 rcases h with h | h
 ·exact List.mem_append.2 (.inl (List.mem_append.2 (.inr h)))
 ·rw[←List.take_append_drop i L] at h
  rcases List.mem_append.1 h with h | h
  ·exact List.mem_append.2 (.inl (List.mem_append.2 (.inl h)))
  ·exact List.mem_append.2 (.inr h)
theorem j5d {p:List Int} {v:Int} (h:v∈p):p=p.take (p.idxOf v)++v::p.drop (p.idxOf v+1):=by
 have hlt:=List.idxOf_lt_length_iff.2 h
 have e:p[p.idxOf v]=v:=List.getElem_idxOf hlt
 conv=>lhs;rw[←List.take_append_drop (p.idxOf v) p,List.drop_eq_getElem_cons hlt,e]
theorem jyh {s:Sp} (hs:Good s) {x:Int×Int} (hx:sok s x=true) {p:List Int} (hp:OrdP (aft s x).1.length p):OrdP s.1.length (jfe s x p):=by
 obtain⟨k,at_⟩:=x
 have hl:=hs.len
 have pl:=hp.len
 obtain⟨hk,g | g | ⟨g,g2,g3⟩⟩:=jbx hx
 ·simp only at g;subst g
  have e:(aft s (1,at_)).1.length=s.2.length:=by simp only[aft,if_true,jz7,List.length_drop];omega
  rw[e] at hp pl
  have m1:(1:Int)∈(jg5 p 0 1).reverse:=by
   rw[List.mem_reverse]
   exact List.mem_map.2 ⟨0,hp.mem (by omega) (by omega),by simp⟩
  have il:=List.idxOf_lt_length_iff.2 m1
  have rl:(jg5 p 0 1).reverse.length=s.2.length:=by simp[jg5,pl]
  refine jy6 ?_ fun i hi=>?_
  ·simp only[jfe,if_true]
   rw[jsy (by split<;>omega) (by split<;>omega)]
   simp only[List.length_singleton];split<;>omega
  ·simp only[jfe,if_true]
   refine jy8 ?_
   by_cases h0:i=0
   ·left;simp[h0]
   ·right
    rw[List.mem_reverse]
    exact List.mem_map.2 ⟨(i:Int)-1,hp.mem (by omega) (by omega),by rw[if_pos (by omega)];omega⟩
 ·simp only at g;subst g
  have e:(aft s (2,at_)).1.length=s.2.length:=by simp only[aft,if_true,jz6,List.length_take,show ¬((2:Int)=1) by omega,if_false];omega
  rw[e] at hp pl
  have m1:((s.2.length:Int)-1)∈p:=hp.mem (by omega) (by omega)
  have il:=List.idxOf_lt_length_iff.2 m1
  refine jy6 ?_ fun i hi=>?_
  ·simp only[jfe,if_true,show ¬((2:Int)=1) by omega,if_false]
   rw[jsy (by split<;>omega) (by split<;>omega)]
   simp only[List.length_singleton];split<;>omega
  ·simp only[jfe,if_true,show ¬((2:Int)=1) by omega,if_false]
   refine jy8 ?_
   by_cases h0:i=s.2.length
   ·left;simp[h0]
   ·right;exact hp.mem (by omega) (by omega)
 ·simp only at g g2 g3;subst g
  obtain⟨c,rfl⟩:∃c:Nat,at_=(c:Int)+1:=⟨(at_-1).toNat,by omega⟩
  have e:(aft s (3,(c:Int)+1)).1.length=s.1.length-2:=by
   have:((c:Int)+1).toNat=c+1:=by omega
   simp only[aft,show ¬((3:Int)=1) by omega,show ¬((3:Int)=2) by omega,if_false,this,jnt,List.length_append,List.length_take,List.length_drop,List.length_singleton,Nat.add_sub_cancel];omega
  rw[e] at hp pl
  have e1:(c:Int)+1-1=c:=by omega
  have m1:(c:Int)∈p:=hp.mem (by omega) (by omega)
  have il:=List.idxOf_lt_length_iff.2 m1
  have cl:(jg5 p ((c:Int)+1) 2).length=p.length:=by simp[jg5]
  have ea:=j5d m1
  have hV:∀b:Bool,(if b then [(c:Int),(c:Int)+1,(c:Int)+1+1] else [(c:Int)+1+1,(c:Int)+1,(c:Int)]).length=3:=fun b=>by cases b<;>rfl
  simp only[jfe,show ¬((3:Int)=1) by omega,show ¬((3:Int)=2) by omega,if_false,e1]
  refine jy6 ?_ fun i hi=>?_
  ·rw[jsy (by omega) (by omega),hV];omega
  ·unfold jhv
   by_cases hV2:i=c∨i=c+1∨i=c+2
   ·refine List.mem_append.2 (.inl (List.mem_append.2 (.inr ?_)))
    split<;>simp<;>omega
   ·have:∃y∈p,y≠(c:Int)∧(if(c:Int)+1≤y then y+2 else y)=(i:Int):=by
     by_cases h:i<c
     ·exact⟨i,hp.mem (by omega) (by omega),by omega,by rw[if_neg (by omega)]⟩
     ·exact⟨(i:Int)-2,hp.mem (by omega) (by omega),by omega,by rw[if_pos (by omega)];omega⟩
    obtain⟨y,hy,hyc,hyi⟩:=this
    rw[ea] at hy
    unfold jg5
    rw[←List.map_take,←List.map_drop]
    rcases List.mem_append.1 hy with hy | hy
    ·exact List.mem_append.2 (.inl (List.mem_append.2 (.inl (List.mem_map.2 ⟨y,hy,hyi⟩))))
    ·rcases List.mem_cons.1 hy with hy | hy
     ·exact absurd hy hyc
     ·exact List.mem_append.2 (.inr (List.mem_map.2 ⟨y,hy,hyi⟩))
end X
end Go.Vm
namespace Go.Vm
namespace X
open W Go.Proofs.St
def jqh:Nat→Sp→List Int
 | 0,_=>[0]
 | m+1,s=>match ja1 s with
   | []=>[0]
   | x::_=>jfe s x (jqh m (aft s x))
def jff (s:Sp):List Int:=jqh s.2.length s
theorem jy1:∀ {m n:Nat} {s:Sp},s.2.length≤m→s.2.length≤n→jqh m s=jqh n s
 | 0,0,s,_,_=>rfl
 | 0,n+1,s,h,_=>by simp only[jqh];rw[jgk (by omega)]
 | m+1,0,s,_,h=>by simp only[jqh];rw[jgk (by omega)]
 | m+1,n+1,s,h1,h2=>by
   simp only[jqh]
   cases e:ja1 s with
   | nil=>rfl
   | cons x t=>
     have:=jgb (jay e)
     simp only
     rw[jy1 (m:=m) (n:=n) (by omega) (by omega)]
theorem jos {s:Sp} (h:ja1 s=[]):jff s=[0]:=by
 unfold jff
 cases s.2.length with
 | zero=>rfl
 | succ n=>simp only[jqh];rw[h]
theorem ji5 {s:Sp} {x:Int×Int} {t:List (Int×Int)} (h:ja1 s=x::t):jff s=jfe s x (jff (aft s x)):=by
 have h1:=jgb (jay h)
 have h2:jff s=jqh ((s.2.length-1)+1) s:=by unfold jff;congr 1;omega
 rw[h2]
 simp only[jqh,h]
 rw[jy1 (m:=s.2.length-1) (n:=(aft s x).2.length) (by omega) (by omega)]
 rfl
def Done (s:Sp):Prop:=(jcx s).2.2.length=0
theorem Done.cons {s:Sp} (h:Done s) {x:Int×Int} {t:List (Int×Int)} (e:ja1 s=x::t):Done (aft s x):=by
 unfold Done at h ⊢
 rw[jey e] at h;exact h
theorem jha {s:Sp} (hs:Good s) (hd:Done s):OrdP s.1.length (jff s):=by
 revert hs hd
 refine ji8 (P:=fun s=>Good s→Done s→OrdP s.1.length (jff s)) ?_ ?_ s
 ·intro s e hs hd
  unfold Done at hd
  rw[jdj e] at hd
  rw[jos e,show s.1.length=1 by have:=hs.len;simp only at hd;omega]
  exact List.Perm.refl _
 ·intro s x t e ih hs hd
  have hx:=jay e
  rw[ji5 e]
  exact jyh hs hx (ih (jeg hs hx) (hd.cons e))
theorem j17 {s:Sp} (hs:Good s) (hd:Done s):∀n,s.2.length<n→jcb jak n (s,())=some (jff s):=by
 revert hs hd
 refine ji8 (P:=fun s=>Good s→Done s→∀n,s.2.length<n→jcb jak n (s,())=some (jff s)) ?_ ?_ s
 ·intro s e hs hd n hn
  obtain⟨n,rfl⟩:∃m,n=m+1:=⟨n-1,by omega⟩
  simp only[jcb,je2]
  rw[show(s.1,s.2)=s from rfl,jkz hs.val,e,jos e]
  rfl
 ·intro s x t e ih hs hd n hn
  obtain⟨n,rfl⟩:∃m,n=m+1:=⟨n-1,by omega⟩
  have hx:=jay e
  have ha:=jeg hs hx
  have hl:=jgb hx
  simp only[jcb,je2]
  rw[show(s.1,s.2)=s from rfl,jkz hs.val,e]
  simp only[Option.bind_some,List.getD_cons_zero]
  rw[decide_eq_false (by simp only[List.length_cons];omega),cond_false,ja8 (jat (by omega) (by simp only[List.length_cons];omega)),ja8 (jat (by omega) (by simp only[List.length_cons];omega))]
  rw[show(x.1,x.2)=x from rfl,jxu hs.val hx]
  simp only[Option.bind_some]
  rw[show((aft s x).1,(aft s x).2)=aft s x from rfl,ih ha (hd.cons e) n (by omega)]
  simp only[Option.bind_some]
  rw[j86 hs hx (jha ha (hd.cons e)),ji5 e]
  rfl
theorem jp5 {s:Sp} (hs:Good s):(Done s→jb7 jak s=some (jff s,0))∧(¬Done s→jb7 jak s=some ([],15)):=by
 unfold jb7
 rw[show(s.1,s.2)=s from rfl,jlw hs]
 simp only[Option.bind_some,ne_eq,not_true_eq_false,decide_false,cond_false]
 constructor
 ·intro hd
  have e:decide ((jcx s).2.2.length=0)=true:=decide_eq_true hd
  have hl:=hs.len
  rw[e]
  simp only[Bool.not_true,cond_false]
  unfold jf9
  rw[j17 hs hd 40 (by omega)]
  simp[bnb,jbr,chk]
 ·intro hd
  have e:decide ((jcx s).2.2.length=0)=false:=decide_eq_false hd
  rw[e]
  rfl
end X
end Go.Vm
namespace Go.Vm
namespace X
open W Go.Proofs.St
theorem jxo {g:Int→List Int}:∀ {A:List Int},(∀x∈A,g x=[x])→A.flatMap g=A
 | [],_=>rfl
 | a::A,h=>by
   rw[List.flatMap_cons,h a (List.mem_cons_self ..),jxo fun x hx=>h x (List.mem_cons_of_mem _ hx)];rfl
theorem j4o {g:Int→List Int} {p:List Int} {v:Int} (hn:p.Nodup) (hv:v∈p) (hg:∀x,x≠v→g x=[x]):p.flatMap g=p.take (p.idxOf v)++g v++p.drop (p.idxOf v+1):=by
 have e:=j5d hv
 have hn':=hn
 rw[e] at hn'
 rw[List.nodup_append] at hn'
 obtain⟨h1,h2,h3⟩:=hn'
 have hB:=(List.nodup_cons.1 h2).1
 conv=>lhs;rw[e]
 rw[List.flatMap_append,List.flatMap_cons,jxo (A:=p.take (p.idxOf v)) fun x hx=>hg x (fun hxv=>h3 x hx v (List.mem_cons_self ..) hxv),jxo (A:=p.drop (p.idxOf v+1)) fun x hx=>hg x (fun hxv=>hB (by subst hxv;exact hx)),List.append_assoc]
end X
end Go.Vm
namespace Go.Vm
namespace X
open W Go.Proofs.St
theorem OrdP.nodup {n:Nat} {p:List Int} (h:OrdP n p):p.Nodup:=(List.Perm.nodup_iff h).2 (jpf n)
theorem jpe {p:List Int} {v y:Int} (hv:v∈p):jhv p (p.idxOf v) (p.idxOf v) [y]=p.take (p.idxOf v)++[y,v]++p.drop (p.idxOf v+1):=by
 have hlt:=List.idxOf_lt_length_iff.2 hv
 have e:p[p.idxOf v]=v:=List.getElem_idxOf hlt
 unfold jhv
 rw[List.drop_eq_getElem_cons hlt,e];simp
theorem jrg {p:List Int} {v y:Int} (hv:v∈p):jhv p (p.idxOf v+1) (p.idxOf v+1) [y]=p.take (p.idxOf v)++[v,y]++p.drop (p.idxOf v+1):=by
 have hlt:=List.idxOf_lt_length_iff.2 hv
 have e:p[p.idxOf v]=v:=List.getElem_idxOf hlt
 unfold jhv
 rw[List.take_add_one,List.getElem?_eq_getElem hlt,e];simp
theorem jhx {s:Sp} (hk:0<s.2.length) {at_:Int} {p:List Int} (hp:OrdP s.2.length p):
  jfe s (2,at_) p=p.flatMap fun k=>if k=(s.2.length:Int)-1 then(if abv s (s.2.length-1) then [k,(s.2.length:Int)] else [(s.2.length:Int),k]) else [k]:=by
 have m1:((s.2.length:Int)-1)∈p:=hp.mem (by omega) (by omega)
 rw[j4o hp.nodup m1 (fun x hx=>if_neg hx),if_pos rfl]
 simp only[jfe,if_true,show ¬((2:Int)=1) by omega,if_false]
 cases abv s (s.2.length-1) with
 | true=>simp only[if_true];exact jrg m1
 | false=>simp only[Bool.false_eq_true,if_false,Nat.add_zero];exact jpe m1
theorem j1l {p:List Int} {k d:Int} (hd:0≤d) (h:p.Nodup):(jg5 p k d).Nodup:=by
 unfold jg5
 refine h.map _ fun a b hab e=>hab ?_
 split at e<;>split at e<;>omega
theorem jjs {s:Sp} (hk:0<s.2.length) {at_:Int} {p:List Int} (hp:OrdP s.2.length p):
  jfe s (1,at_) p=(jg5 p 0 1).reverse.flatMap fun k=>if k=1 then(if abv s 0 then [0,k] else [k,0]) else [k]:=by
 have m1:(1:Int)∈(jg5 p 0 1).reverse:=by
  rw[List.mem_reverse]
  exact List.mem_map.2 ⟨0,hp.mem (by omega) (by omega),by simp⟩
 have nd:(jg5 p 0 1).reverse.Nodup:=(List.Perm.nodup_iff (List.reverse_perm _)).2 (j1l (by omega) hp.nodup)
 rw[j4o nd m1 (fun x hx=>if_neg hx),if_pos rfl]
 simp only[jfe,if_true]
 cases abv s 0 with
 | true=>simp only[if_true,Nat.add_zero];exact jpe m1
 | false=>simp only[Bool.false_eq_true,if_false];exact jrg m1
theorem js8 {g:Int→List Int} {φ:Int→Int}:∀ {A:List Int},(∀x∈A,g x=[φ x])→A.flatMap g=A.map φ
 | [],_=>rfl
 | a::A,h=>by
   rw[List.flatMap_cons,h a (List.mem_cons_self ..),js8 fun x hx=>h x (List.mem_cons_of_mem _ hx)];rfl
theorem j7n {g:Int→List Int} {φ:Int→Int} {p:List Int} {v:Int} (hn:p.Nodup) (hv:v∈p) (hg:∀x,x≠v→g x=[φ x]):p.flatMap g=(p.take (p.idxOf v)).map φ++g v++(p.drop (p.idxOf v+1)).map φ:=by
 have e:=j5d hv
 have hn':=hn
 rw[e] at hn'
 rw[List.nodup_append] at hn'
 obtain⟨h1,h2,h3⟩:=hn'
 have hB:=(List.nodup_cons.1 h2).1
 conv=>lhs;rw[e]
 rw[List.flatMap_append,List.flatMap_cons,js8 (A:=p.take (p.idxOf v)) (φ:=φ) fun x hx=>hg x (fun hxv=>h3 x hx v (List.mem_cons_self ..) hxv),js8 (A:=p.drop (p.idxOf v+1)) (φ:=φ) fun x hx=>hg x (fun hxv=>hB (by subst hxv;exact hx)),List.append_assoc]
theorem jhy {s:Sp} {c:Nat} {k:Int} (k1:k≠1) (k2:k≠2) {n:Nat} (hc:c<n) {p:List Int} (hp:OrdP n p):
  jfe s (k,(c:Int)+1) p=p.flatMap fun k=>if k=(c:Int) then(if abv s c then [k,k+1,k+2] else [k+2,k+1,k]) else [if(c:Int)+1≤k then k+2 else k]:=by
 have m1:(c:Int)∈p:=hp.mem (by omega) (by omega)
 rw[j7n hp.nodup m1 (φ:=fun k=>if(c:Int)+1≤k then k+2 else k) (fun x hx=>if_neg hx),if_pos rfl]
 simp only[jfe,if_neg k1,if_neg k2]
 rw[show(c:Int)+1-1=c by omega,show((c:Int)+1).toNat-1=c by omega,show(c:Int)+1+1=c+2 by omega]
 unfold jhv jg5
 rw[List.map_take,List.map_drop]
end X
end Go.Vm
