/-
  Strips: plain laws: Of, Check, Ends, Span; the law StripsEnds.
  Strips: loops over lists; Check; lengths of joined texts.
  Strips: the plain law of T.Of.
  Strips: lists: copies, equal lists, turning round.
-/
import Derived.Test.YtldgdgacdcenkaaDoorQ7
import Derived.Test.YtldgdgacdcenkaaDoorXG7
import Derived.Test.YtldgdgacdcenkaaDoorVmWS
import Derived.KernelRfl
set_option linter.unusedSimpArgs false
set_option linter.unusedVariables false
set_option linter.unusedSectionVars false
set_option linter.unnecessarySimpa false
namespace Go.Vm
namespace X
open W
def bytes (L:List Int):Prop:=∀x∈L,0≤x∧x≤255
def Valid (s:List Int×List Int):Prop:=s.1.length≤32∧s.1.length=s.2.length+1∧(∀x∈s.1,1≤x∧x≤64)∧∀x∈s.2,1≤x∧x≤3
theorem strips_Check_valid {a:List Int×List Int} (h:Valid a):strips_Check fuel a=some 0:=by
 obtain⟨h1,h2,h3,h4⟩:=h
 apply Ret.eq
 unfold strips_Check
 refine Ret_dec (fun h=>absurd h (by omega)) fun _=>?_
 refine Ret_chk (i64b_t (by omega) (by omega)) ?_
 refine Ret_dec (fun h=>absurd h (by omega)) fun _=>?_
 refine Ret_loop (Inv:=fun x:Int=>0≤x∧x≤a.1.length) (m:=fun x:Int=>((a.1.length:Int)-x).toNat) ?_ _ _ ⟨by omega,by omega⟩ (by unfold fuel;omega)
 intro x rec ⟨i1,i2⟩ ih
 refine Ret_dec (fun hlt=>?_) fun hge=>?_
 ·have:=h3 _ (getD_mem (i:=x.toNat) (by omega))
  refine Ret_chk (inb_t i1 hlt) ?_
  refine Ret_dec (fun h=>absurd h (by omega)) fun _=>Ret_dec (fun h=>absurd h (by omega)) fun _=>Ret_chk (i64b_t (by omega) (by omega)) (ih _ ⟨by omega,by omega⟩ (by omega))
 ·refine Ret_loop (Inv:=fun x:Int=>0≤x∧x≤a.2.length) (m:=fun x:Int=>((a.2.length:Int)-x).toNat) ?_ _ _ ⟨by omega,by omega⟩ (by unfold fuel;omega)
  intro x rec ⟨i1,i2⟩ ih
  refine Ret_dec (fun hlt=>?_) fun hge=>Ret_some rfl
  have:=h4 _ (getD_mem (i:=x.toNat) (by omega))
  refine Ret_chk (inb_t i1 hlt) ?_
  exact Ret_dec (fun h=>absurd h (by omega)) fun _=>Ret_dec (fun h=>absurd h (by omega)) fun _=>Ret_chk (i64b_t (by omega) (by omega)) (ih _ ⟨by omega,by omega⟩ (by omega))
end X
end Go.Vm
namespace Go.Vm
namespace X
open W
def okI (L:List Int):Prop:=∀x∈L,1≤x∧x≤64
def okK (L:List Int):Prop:=∀x∈L,1≤x∧x≤3
instance {L:List Int}:Decidable (okI L):=inferInstanceAs (Decidable (∀x∈L,1≤x∧x≤64))
instance {L:List Int}:Decidable (okK L):=inferInstanceAs (Decidable (∀x∈L,1≤x∧x≤3))
theorem all_of_getD {L:List Int} {P:Int→Prop} (h:∀i:Nat,i<L.length→P (L.getD i 0)):∀x∈L,P x:=fun x hx=>by
 obtain⟨i,hi,rfl⟩:=List.mem_iff_getElem.1 hx
 have:=h i hi
 simpa[List.getD,List.getElem?_eq_getElem hi] using this
end X
end Go.Vm
namespace Go.Vm
namespace X
open W
theorem wrap_u8 {n:Int} (h1:0≤n) (h2:n≤255):IntKind.u8.wrap n=n:=by
 simp[IntKind.wrap,IntKind.bits,IntKind.signed];omega
def OfQ (s:List Int×List Int):Prop:=1≤s.1.length∧s.1.length≤12∧s.1.length=s.2.length+1∧(∀x∈s.1,1≤x∧x≤8)∧∀x∈s.2,1≤x∧x≤3
theorem OfQ.valid {s:List Int×List Int} (h:OfQ s):Valid s:=⟨by have:=h.2.1;omega,h.2.2.1,fun x hx=>by have:=h.2.2.2.1 x hx;omega,h.2.2.2.2⟩
theorem mem_snoc {L:List Int} {a:Int} {P:Int→Prop} (h:∀x∈L,P x) (ha:P a):∀x∈L++[a],P x:=fun x hx=>by
 rcases List.mem_append.1 hx with h1 | h1
 ·exact h x h1
 ·rw[List.mem_singleton.1 h1];exact ha
theorem law16_T_Of_ok {a:List Int×List Int} (h1:bytes a.1) (h2:bytes a.2):Ret (law16_T_Of fuel a) OfQ:=by
 unfold law16_T_Of
 have fin:∀x:Int×(List Int×List Int),(0≤x.1∧x.1≤12∧x.2.1.length=x.1.toNat∧x.2.2.length=x.1.toNat-1∧(∀y∈x.2.1,1≤y∧y≤8)∧∀y∈x.2.2,1≤y∧y≤3)→
   Ret (bif(decide (((x.2.1.length:Nat):Int)=0)) then(some ([1],x.2.2)) else(some (x.2.1,x.2.2))) OfQ:=by
  intro x ⟨i1,i2,i3,i4,i5,i6⟩
  refine Ret_dec (fun h=>Ret_some ⟨by simp,by simp,?_,by simp,i6⟩) fun h=>Ret_some ⟨?_,?_,?_,i5,i6⟩
  ·simp only[List.length_singleton];omega
  all_goals (simp only;omega)
 refine Ret_loop (Inv:=fun x=>0≤x.1∧x.1≤12∧x.2.1.length=x.1.toNat∧x.2.2.length=x.1.toNat-1∧(∀y∈x.2.1,1≤y∧y≤8)∧∀y∈x.2.2,1≤y∧y≤3) (m:=fun x=>(12-x.1).toNat) ?_ _ _ ⟨by simp,by simp,by simp,by simp,by simp,by simp⟩ (by simp[fuel])
 intro x rec hi ih
 have hI:=hi
 obtain⟨i1,i2,i3,i4,i5,i6⟩:=hi
 refine Ret_dec (fun hlt=>?_) fun _=>fin x hI
 refine Ret_dec (fun h12=>?_) fun _=>fin x hI
 have hb:=h1 _ (getD_mem (i:=x.1.toNat) (by omega))
 refine Ret_chk (inb_t i1 hlt) ?_
 refine Ret_chk (by rw[Bool.and_eq_true];exact⟨decide_eq_true (by omega),rfl⟩) ?_
 refine Ret_chk (i64b_t (by omega) (by omega)) ?_
 refine Ret_chk (i64b_t (by omega) (by omega)) ?_
 refine Ret_chk (lenOk_t (by omega)) ?_
 have e5:=mem_snoc i5 (a:=1+ (a.1.getD x.1.toNat 0)%8) (P:=fun y=>1≤y∧y≤8) (by omega)
 refine Ret_dec (fun hpos=>?_) fun hz=>?_
 ·refine Ret_dec (fun hk=>?_) fun hk=>?_
  ·refine Ret_chk (i64b_t (by omega) (by omega)) ?_
   refine Ret_chk (inb_t (by omega) (by omega)) ?_
   have hb2:=h2 _ (getD_mem (L:=a.2) (i:=(x.1-1).toNat) (by omega))
   refine Ret_chk (by rw[Bool.and_eq_true];exact⟨decide_eq_true (by omega),rfl⟩) ?_
   refine Ret_chk (lenOk_t (by omega)) ?_
   refine Ret_chk (i64b_t (by omega) (by omega)) ?_
   refine ih _ ⟨by simp only;omega,by simp only;omega,by simp only[List.length_append,List.length_singleton];omega,by simp only[List.length_append,List.length_singleton];omega,e5,mem_snoc i6 ?_⟩ (by simp only;omega)
   rw[wrap_u8 (by omega) (by omega)];omega
  ·refine Ret_chk (lenOk_t (by omega)) ?_
   refine Ret_chk (i64b_t (by omega) (by omega)) ?_
   exact ih _ ⟨by simp only;omega,by simp only;omega,by simp only[List.length_append,List.length_singleton];omega,by simp only[List.length_append,List.length_singleton];omega,e5,mem_snoc i6 (by omega)⟩ (by simp only;omega)
 ·refine Ret_chk (i64b_t (by omega) (by omega)) ?_
  exact ih _ ⟨by simp only;omega,by simp only;omega,by simp only[List.length_append,List.length_singleton];omega,by simp only;omega,e5,i6⟩ (by simp only;omega)
end X
end Go.Vm
namespace Go.Vm
namespace X
open W
theorem clone_int {a:List Int} (h:a.length≤10000):slices_Clone_int fuel a=some a:=by
 unfold slices_Clone_int;rw[lenOk_t (by omega)];rfl
theorem clone_kind {a:List Int} (h:a.length≤10000):slices_Clone_api_Kind fuel a=some a:=by
 unfold slices_Clone_api_Kind;rw[lenOk_t (by omega)];rfl
theorem getD_set {L:List Int} {i k:Nat} {v:Int} (hi:i<L.length):(L.set i v).getD k 0=if k=i then v else L.getD k 0:=by
 simp only[List.getD,List.getElem?_set]
 by_cases h:i=k
 ·subst h;simp[hi]
 ·simp[h,Ne.symm h]
theorem ext_getD {L M:List Int} (hl:L.length=M.length) (h:∀i:Nat,i<L.length→L.getD i 0=M.getD i 0):L=M:=by
 apply List.ext_getElem hl
 intro i h1 h2
 have:=h i h1
 simpa[List.getD,List.getElem?_eq_getElem h1,List.getElem?_eq_getElem h2] using this
theorem getD_reverse {L:List Int} {i:Nat} (h:i<L.length):L.reverse.getD i 0=L.getD (L.length-1-i) 0:=by
 rw[List.getD,List.getElem?_reverse h];rfl
end X
end Go.Vm
