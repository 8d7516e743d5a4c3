/-
  Strips: plain laws: Of, Check, Ends, Span; the law StripsEnds.
  Strips: plain laws of Ends and Span.
  Strips: loops over lists; Check; lengths of jho texts.
  Strips: the plain law of T.Of.
  Strips: lists: copies, equal lists, turning round.
  Piles: plain laws: ends, places, orders.
  Piles: the plain law PilesProfile.
  Piles: the plain law PilesProfile: Profile; the law.
  Piles: the law PilesProfile.
-/
import Derived.Test.YtldgdgacdcenkaaGreatDoorQ7
set_option linter.unusedSimpArgs false
set_option linter.unusedVariables false
set_option linter.unusedSectionVars false
set_option linter.unnecessarySimpa false
namespace Go.Vm
namespace X
open W Go.Proofs.St
def bytes (L:List Int):Prop:=∀x∈L,0≤x∧x≤255
def jd3 (s:List Int×List Int):Prop:=s.1.length≤32∧s.1.length=s.2.length+1∧(∀x∈s.1,1≤x∧x≤64)∧∀x∈s.2,1≤x∧x≤3
theorem jf4 {a:List Int×List Int} (h:jd3 a):ja5 jak a=some 0:=by
 obtain⟨h1,h2,h3,h4⟩:=h
 apply Ret.eq
 unfold ja5
 refine jac (fun h=>absurd h (by omega)) fun _=>?_
 refine jaa (jah (by omega) (by omega)) ?_
 refine jac (fun h=>absurd h (by omega)) fun _=>?_
 refine jas (Inv:=fun x:Int=>0≤x∧x≤a.1.length) (m:=fun x:Int=>((a.1.length:Int)-x).toNat) ?_ _ _ ⟨by omega,by omega⟩ (by unfold jak;omega)
 intro x rec ⟨i1,i2⟩ ih
 refine jac (fun hlt=>?_) fun hge=>?_
 ·have:=h3 _ (jaw (i:=x.toNat) (by omega))
  refine jaa (jat i1 hlt) ?_
  refine jac (fun h=>absurd h (by omega)) fun _=>jac (fun h=>absurd h (by omega)) fun _=>jaa (jah (by omega) (by omega)) (ih _ ⟨by omega,by omega⟩ (by omega))
 ·refine jas (Inv:=fun x:Int=>0≤x∧x≤a.2.length) (m:=fun x:Int=>((a.2.length:Int)-x).toNat) ?_ _ _ ⟨by omega,by omega⟩ (by unfold jak;omega)
  intro x rec ⟨i1,i2⟩ ih
  refine jac (fun hlt=>?_) fun hge=>jal rfl
  have:=h4 _ (jaw (i:=x.toNat) (by omega))
  refine jaa (jat i1 hlt) ?_
  exact jac (fun h=>absurd h (by omega)) fun _=>jac (fun h=>absurd h (by omega)) fun _=>jaa (jah (by omega) (by omega)) (ih _ ⟨by omega,by omega⟩ (by omega))
end X
end Go.Vm
namespace Go.Vm
namespace X
open W Go.Proofs.St
theorem j3l {s:List Int×List Int} (h:jd3 s):okL s.1=true:=by
 obtain⟨h1,h2,h3,_⟩:=h
 unfold okL
 simp only[Bool.and_eq_true,jad,decide_eq_true_eq]
 exact⟨⟨List.all_eq_true.2 fun x hx=>by simpa using h3 x hx,by omega⟩,h1⟩
theorem jl1 {s:List Int×List Int} (h:jd3 s):jdq jak s=some (endsL s.1,0):=by
 unfold jdq j4x
 rw[jf4 h]
 simp only[decide_true,cond_true,j3l h]
theorem j4y (L:List Int):(endsL L).length=L.length+1:=by simp[endsL]
theorem j1h {L:List Int} {i:Nat} (h:i≤L.length):(endsL L).getD i 0=eAt L i:=by
 unfold endsL
 rw[List.getD,List.getElem?_map,List.getElem?_range (by omega)]
 rfl
def lo (E:List Int):Nat→Int
 | 0=>E.getD 0 0
 | k+1=>min (lo E k) (E.getD (k+1) 0)
def hi (E:List Int):Nat→Int
 | 0=>E.getD 0 0
 | k+1=>max (hi E k) (E.getD (k+1) 0)
end X
end Go.Vm
namespace Go.Vm
namespace X
open W Go.Proofs.St
theorem jzy {β:Type} {L M:List Int} (hl:L.length=M.length) (h:L.length≤10000) {r:β} {K:Option β}:
  jbe (fun(rec:Int→Option β) (x:Int)=>bif(decide (x< ((L.length:Nat):Int))) then(chk (inb x L.length) (chk (inb x M.length) (bif(decide ((L.getD x.toNat 0)≠(M.getD x.toNat 0))) then(some r) else(chk (jap (x+1)) (rec (x+1)))))) else K) jak 0=if L=M then K else some r:=by
 refine jzb (fun x:Int=>0≤x∧x≤L.length∧∀i:Nat,(i:Int)<x→L.getD i 0=M.getD i 0) (fun x=>((L.length:Int)-x).toNat) (fun _=>if L=M then K else some r) ?_ _ _ ⟨by omega,by omega,fun i hi=>by omega⟩ (by unfold jak;omega)
 intro x rec ⟨i1,i2,i3⟩ ih
 by_cases hx:x< (L.length:Int)
 ·rw[decide_eq_true hx,cond_true,show inb x L.length=true from jat i1 hx,show inb x M.length=true from jat i1 (by omega)]
  simp only[chk,cond_true]
  by_cases he:L.getD x.toNat 0=M.getD x.toNat 0
  ·rw[decide_eq_false (by simpa using he),cond_false,jah (by omega) (by omega),cond_true]
   refine ih _ ⟨by omega,by omega,fun i hi=>?_⟩ (by omega)
   by_cases hix:(i:Int)=x
   ·rw[←hix,Int.toNat_natCast] at he;exact he
   ·exact i3 i (by omega)
  ·rw[decide_eq_true (by simpa using he),cond_true,if_neg]
   rintro rfl;exact he rfl
 ·rw[decide_eq_false hx,cond_false,if_pos]
  apply List.ext_getElem hl
  intro i h1 h2
  have:=i3 i (by omega)
  simpa[List.getD,List.getElem?_eq_getElem h1,List.getElem?_eq_getElem h2] using this
def okI (L:List Int):Prop:=∀x∈L,1≤x∧x≤64
def okK (L:List Int):Prop:=∀x∈L,1≤x∧x≤3
instance {L:List Int}:Decidable (okI L):=inferInstanceAs (Decidable (∀x∈L,1≤x∧x≤64))
instance {L:List Int}:Decidable (okK L):=inferInstanceAs (Decidable (∀x∈L,1≤x∧x≤3))
theorem je0 {L:List Int} {P:Int→Prop} (h:∀i:Nat,i<L.length→P (L.getD i 0)):∀x∈L,P x:=fun x hx=>by
 obtain⟨i,hi,rfl⟩:=List.mem_iff_getElem.1 hx
 have:=h i hi
 simpa[List.getD,List.getElem?_eq_getElem hi] using this
def ckS (a:List Int×List Int):Int:=if 32<a.1.length then 3 else if a.1.length≠a.2.length+1 then 5 else if okI a.1∧okK a.2 then 0 else 1
theorem j1o {a:List Int×List Int} (h:a.2.length≤1000):ja5 jak a=some (ckS a):=by
 apply Ret.eq
 unfold ja5 ckS
 refine jac (fun h=>?_) fun h1=>?_
 ·rw[if_pos (by omega)];exact jal rfl
 rw[if_neg (by omega)]
 refine jaa (jah (by omega) (by omega)) ?_
 refine jac (fun h=>?_) fun h2=>?_
 ·rw[if_pos (by omega)];exact jal rfl
 rw[if_neg (by omega)]
 refine jas (Inv:=fun x:Int=>0≤x∧x≤a.1.length∧∀i:Nat,(i:Int)<x→1≤a.1.getD i 0∧a.1.getD i 0≤64) (m:=fun x:Int=>((a.1.length:Int)-x).toNat) ?_ _ _ ⟨by omega,by omega,fun i hi=>by omega⟩ (by unfold jak;omega)
 intro x rec ⟨i1,i2,i3⟩ ih
 refine jac (fun hlt=>?_) fun hge=>?_
 ·have hm:=jaw (L:=a.1) (i:=x.toNat) (by omega)
  refine jaa (jat i1 hlt) ?_
  refine jac (fun h=>jal ?_) fun ha=>jac (fun h=>jal ?_) fun hb=>jaa (jah (by omega) (by omega)) (ih _ ⟨by omega,by omega,fun i hi=>?_⟩ (by omega))
  ·rw[if_neg];rintro ⟨k1,_⟩;have:=(k1 _ hm).1;omega
  ·rw[if_neg];rintro ⟨k1,_⟩;have:=(k1 _ hm).2;omega
  ·by_cases hix:(i:Int)=x
   ·rw[←hix,Int.toNat_natCast] at ha hb;omega
   ·exact i3 i (by omega)
 ·have hI:okI a.1:=je0 fun i hi=>i3 i (by omega)
  refine jas (Inv:=fun x:Int=>0≤x∧x≤a.2.length∧∀i:Nat,(i:Int)<x→1≤a.2.getD i 0∧a.2.getD i 0≤3) (m:=fun x:Int=>((a.2.length:Int)-x).toNat) ?_ _ _ ⟨by omega,by omega,fun i hi=>by omega⟩ (by unfold jak;omega)
  intro x rec ⟨i1,i2,i3⟩ ih
  refine jac (fun hlt=>?_) fun hge=>?_
  ·have hm:=jaw (L:=a.2) (i:=x.toNat) (by omega)
   refine jaa (jat i1 hlt) ?_
   refine jac (fun h=>jal ?_) fun ha=>jac (fun h=>jal ?_) fun hb=>jaa (jah (by omega) (by omega)) (ih _ ⟨by omega,by omega,fun i hi=>?_⟩ (by omega))
   ·rw[if_neg];rintro ⟨_,k1⟩;have:=(k1 _ hm).1;omega
   ·rw[if_neg];rintro ⟨_,k1⟩;have:=(k1 _ hm).2;omega
   ·by_cases hix:(i:Int)=x
    ·rw[←hix,Int.toNat_natCast] at ha hb;omega
    ·exact i3 i (by omega)
  ·rw[if_pos ⟨hI,je0 fun i hi=>i3 i (by omega)⟩];exact jal rfl
theorem jpr {a:List Int×List Int}:ckS a=0↔jd3 a:=by
 unfold ckS jd3
 by_cases h1:32<a.1.length
 ·rw[if_pos h1];constructor
  ·intro h;cases h
  ·intro h;omega
 rw[if_neg h1]
 by_cases h2:a.1.length≠a.2.length+1
 ·rw[if_pos h2];constructor
  ·intro h;cases h
  ·intro h;omega
 rw[if_neg h2]
 by_cases h3:okI a.1∧okK a.2
 ·rw[if_pos h3];exact⟨fun _=>⟨by omega,by omega,h3.1,h3.2⟩,fun _=>rfl⟩
 ·rw[if_neg h3];constructor
  ·intro h;cases h
  ·intro h;exact absurd ⟨h.2.2.1,h.2.2.2⟩ h3
end X
end Go.Vm
namespace Go.Vm
namespace X
open W Go.Proofs.St
theorem jr4 {n:Int} (h1:0≤n) (h2:n≤255):IntKind.u8.wrap n=n:=by
 simp[IntKind.wrap,IntKind.bits,IntKind.signed];omega
def OfQ (s:List Int×List Int):Prop:=1≤s.1.length∧s.1.length≤12∧s.1.length=s.2.length+1∧(∀x∈s.1,1≤x∧x≤8)∧∀x∈s.2,1≤x∧x≤3
theorem ji7 {L:List Int} {a:Int} {P:Int→Prop} (h:∀x∈L,P x) (ha:P a):∀x∈L++[a],P x:=fun x hx=>by
 rcases List.mem_append.1 hx with h1 | h1
 ·exact h x h1
 ·rw[List.mem_singleton.1 h1];exact ha
theorem jsv {a:List Int×List Int} (h1:bytes a.1) (h2:bytes a.2):Ret (jdz jak a) OfQ:=by
 unfold jdz
 have fin:∀x:Int×(List Int×List Int),(0≤x.1∧x.1≤12∧x.2.1.length=x.1.toNat∧x.2.2.length=x.1.toNat-1∧(∀y∈x.2.1,1≤y∧y≤8)∧∀y∈x.2.2,1≤y∧y≤3)→
   Ret (bif(decide (((x.2.1.length:Nat):Int)=0)) then(some ([1],x.2.2)) else(some (x.2.1,x.2.2))) OfQ:=by
  intro x ⟨i1,i2,i3,i4,i5,i6⟩
  refine jac (fun h=>jal ⟨by simp,by simp,?_,by simp,i6⟩) fun h=>jal ⟨?_,?_,?_,i5,i6⟩
  ·simp only[List.length_singleton];omega
  all_goals (simp only;omega)
 refine jas (Inv:=fun x=>0≤x.1∧x.1≤12∧x.2.1.length=x.1.toNat∧x.2.2.length=x.1.toNat-1∧(∀y∈x.2.1,1≤y∧y≤8)∧∀y∈x.2.2,1≤y∧y≤3) (m:=fun x=>(12-x.1).toNat) ?_ _ _ ⟨by simp,by simp,by simp,by simp,by simp,by simp⟩ (by simp[jak])
 intro x rec hi ih
 have hI:=hi
 obtain⟨i1,i2,i3,i4,i5,i6⟩:=hi
 refine jac (fun hlt=>?_) fun _=>fin x hI
 refine jac (fun h12=>?_) fun _=>fin x hI
 have hb:=h1 _ (jaw (i:=x.1.toNat) (by omega))
 refine jaa (jat i1 hlt) ?_
 refine jaa (by rw[Bool.and_eq_true];exact⟨decide_eq_true (by omega),rfl⟩) ?_
 refine jaa (jah (by omega) (by omega)) ?_
 refine jaa (jah (by omega) (by omega)) ?_
 refine jaa (jbg (by omega)) ?_
 have e5:=ji7 i5 (a:=1+ (a.1.getD x.1.toNat 0)%8) (P:=fun y=>1≤y∧y≤8) (by omega)
 refine jac (fun hpos=>?_) fun hz=>?_
 ·refine jac (fun hk=>?_) fun hk=>?_
  ·refine jaa (jah (by omega) (by omega)) ?_
   refine jaa (jat (by omega) (by omega)) ?_
   have hb2:=h2 _ (jaw (L:=a.2) (i:=(x.1-1).toNat) (by omega))
   refine jaa (by rw[Bool.and_eq_true];exact⟨decide_eq_true (by omega),rfl⟩) ?_
   refine jaa (jbg (by omega)) ?_
   refine jaa (jah (by omega) (by omega)) ?_
   refine ih _ ⟨by simp only;omega,by simp only;omega,by simp only[List.length_append,List.length_singleton];omega,by simp only[List.length_append,List.length_singleton];omega,e5,ji7 i6 ?_⟩ (by simp only;omega)
   rw[jr4 (by omega) (by omega)];omega
  ·refine jaa (jbg (by omega)) ?_
   refine jaa (jah (by omega) (by omega)) ?_
   exact ih _ ⟨by simp only;omega,by simp only;omega,by simp only[List.length_append,List.length_singleton];omega,by simp only[List.length_append,List.length_singleton];omega,e5,ji7 i6 (by omega)⟩ (by simp only;omega)
 ·refine jaa (jah (by omega) (by omega)) ?_
  exact ih _ ⟨by simp only;omega,by simp only;omega,by simp only[List.length_append,List.length_singleton];omega,by simp only;omega,e5,i6⟩ (by simp only;omega)
end X
end Go.Vm
namespace Go.Vm
namespace X
open W Go.Proofs.St
theorem jpq {a:List Int} (h:a.length≤10000):jau jak a=some a:=by
 unfold jau;rw[jbg (by omega)];rfl
theorem j1m {a:List Int} (h:a.length≤10000):jav jak a=some a:=by
 unfold jav;rw[jbg (by omega)];rfl
theorem jfg {L:List Int} {i k:Nat} {v:Int} (hi:i<L.length):(L.set i v).getD k 0=if k=i then v else L.getD k 0:=by
 simp only[List.getD,List.getElem?_set]
 by_cases h:i=k
 ·subst h;simp[hi]
 ·simp[h,Ne.symm h]
theorem jzt {L M:List Int} (hl:L.length=M.length) (h:∀i:Nat,i<L.length→L.getD i 0=M.getD i 0):L=M:=by
 apply List.ext_getElem hl
 intro i h1 h2
 have:=h i h1
 simpa[List.getD,List.getElem?_eq_getElem h1,List.getElem?_eq_getElem h2] using this
theorem jm6 {L:List Int} {i:Nat} (h:i<L.length):L.reverse.getD i 0=L.getD (L.length-1-i) 0:=by
 rw[List.getD,List.getElem?_reverse h];rfl
theorem j4u {a:List Int×List Int} (h:a.1.length≤10000):jb1 jak a=some (decide (a.1=a.2)):=by
 unfold jb1
 by_cases hl:a.1.length=a.2.length
 ·rw[decide_eq_false (by omega),cond_false,jzy hl h]
  by_cases he:a.1=a.2
  ·rw[if_pos he,decide_eq_true he]
  ·rw[if_neg he,decide_eq_false he]
 ·rw[decide_eq_true (by omega),cond_true,decide_eq_false]
  intro he;rw[he] at hl;exact hl rfl
theorem j1f {a:List Int×List Int} (h:a.1.length≤10000):jba jak a=some (decide (a.1=a.2)):=by
 unfold jba
 by_cases hl:a.1.length=a.2.length
 ·rw[decide_eq_false (by omega),cond_false,jzy hl h]
  by_cases he:a.1=a.2
  ·rw[if_pos he,decide_eq_true he]
  ·rw[if_neg he,decide_eq_false he]
 ·rw[decide_eq_true (by omega),cond_true,decide_eq_false]
  intro he;rw[he] at hl;exact hl rfl
theorem jug {a:List Int×List Int} (h1:a.1.length≤10000) (h2:a.2.length≤10000):jcy jak (a,a)=some true:=by
 unfold jcy
 rw[j4u (a:=(a.1,a.1)) h1,j1f (a:=(a.2,a.2)) h2]
 simp
theorem j7t {a:List Int×List Int} (h:a.2.length≤1000) (he:ckS a≠0):jdq jak a=some ([],ckS a):=by
 unfold jdq j4x
 rw[j1o h]
 simp[he]
end X
end Go.Vm
namespace Go.Vm
namespace X
open W Go.Proofs.St
theorem jhz {L:List Int} {i:Nat} (h:i<L.length):L.take (i+1)=L.take i++[L.getD i 0]:=by
 rw[List.take_add_one,List.getD,List.getElem?_eq_getElem h];rfl
theorem ja8 {β:Type} {c:Bool} {x:Option β} (h:c=true):chk c x=x:=by rw[h];rfl
def frm (E:List Int) (i:Nat):Int:=min (E.getD i 0) (E.getD (i+1) 0)
def too (E:List Int) (i:Nat):Int:=max (E.getD i 0) (E.getD (i+1) 0)
theorem kay {L K E:List Int} {i:Int} (h0:0≤i) (h1:i+1<E.length) (h2:E.length≤10000):jbv jak (((L,K),E),i)=some (frm E i.toNat):=by
 unfold jbv
 rw[ja8 (jat h0 (by simp only;omega)),ja8 (jah (by simp only;omega) (by simp only;omega)),ja8 (jat (by simp only;omega) (by simp only;omega))]
 simp only[frm,show(i+1).toNat=i.toNat+1 by omega]
theorem kfu {L K E:List Int} {i:Int} (h0:0≤i) (h1:i+1<E.length) (h2:E.length≤10000):jce jak (((L,K),E),i)=some (too E i.toNat):=by
 unfold jce
 rw[ja8 (jat h0 (by simp only;omega)),ja8 (jah (by simp only;omega) (by simp only;omega)),ja8 (jat (by simp only;omega) (by simp only;omega))]
 simp only[too,show(i+1).toNat=i.toNat+1 by omega]
def ovl (E:List Int) (i k:Nat):Bool:=decide (frm E i<too E k)&&decide (frm E k<too E i)
theorem kf3 {s:List Int×List Int} (h:jd3 s):jf5 jak s=some ((s,endsL s.1),0):=by
 unfold jf5
 rw[show(s.1,s.2)=s from rfl,jl1 h]
 simp only[Option.bind_some]
 rw[ja8 (by simp[jbr])]
theorem kcx {s:List Int×List Int} (h:s.2.length≤1000) (he:ckS s≠0):jf5 jak s=some ((s,[]),ckS s):=by
 unfold jf5
 rw[show(s.1,s.2)=s from rfl,j7t h he]
 simp only[Option.bind_some]
 rw[ja8 (by simp[jbr])]
def In (n:Nat) (p:List Int):Prop:=∀x∈p,0≤x∧x<n
def idL (n:Nat):List Int:=(List.range n).map Int.ofNat
theorem js5 (n:Nat):(idL n).length=n:=by simp[idL]
theorem js4 (n:Nat):idL (n+1)=idL n++[(n:Int)]:=by simp[idL,List.range_succ]
theorem jkk {n:Nat} {x:Int}:x∈idL n↔0≤x∧x<n:=by
 simp only[idL,List.mem_map,List.mem_range]
 constructor
 ·rintro ⟨a,h,rfl⟩;exact⟨by simp,by simp;omega⟩
 ·intro h;exact⟨x.toNat,by omega,by simp;omega⟩
theorem jpf (n:Nat):(idL n).Nodup:=by
 unfold idL
 exact List.nodup_range.map (f:=Int.ofNat) (fun a b h h2=>h (Int.ofNat.inj h2))
def Ord (n:Nat) (p:List Int):Prop:=p.Perm (idL n)
theorem Ord.len {n:Nat} {p:List Int} (h:Ord n p):p.length=n:=by rw[h.length_eq,js5]
theorem Ord.in {n:Nat} {p:List Int} (h:Ord n p):In n p:=fun x hx=>jkk.1 (h.mem_iff.1 hx)
theorem Ord.nodup {n:Nat} {p:List Int} (h:Ord n p):p.Nodup:=h.nodup_iff.2 (jpf n)
theorem Ord.mem {n:Nat} {p:List Int} (h:Ord n p) {i:Nat} (hi:i<n):(i:Int)∈p:=h.mem_iff.2 (jkk.2 ⟨by omega,by omega⟩)
end X
end Go.Vm
namespace Go.Vm
namespace X
open W Go.Proofs.St
theorem khc {s:List Int×List Int} (h:jd3 s) {i:Nat} (hi:i≤s.1.length):(endsL s.1).getD i 0=eAt s.1 i:=j1h hi
end X
end Go.Vm
namespace Go.Vm
namespace X
open W Go.Proofs.St
end X
end Go.Vm
namespace Go.Vm
namespace X
open W Go.Proofs.St
end X
end Go.Vm
