/-
  Strips: plain laws: Of, Check, Ends, Span; the law StripsEnds.
  Strips: plain laws of Ends and Span.
  Strips: loops over lists; Check; lengths of joined texts.
  Strips: the plain law of T.Of.
  Strips: lists: copies, equal lists, turning round.
  Piles: plain laws: ends, places, orders.
  Piles: the plain law PilesProfile.
  Piles: the plain law PilesProfile: Profile; the law.
  Piles: the law PilesProfile.
-/
import Derived.Test.YtldgdgacdcenkaaGreatDoorQ7
import Derived.Test.YtldgdgacdcenkaaGreatDoorXG7
import Derived.Test.YtldgdgacdcenkaaGreatDoorVmWS
import Derived.KernelRfl
set_option linter.unusedSimpArgs false
set_option linter.unusedVariables false
set_option linter.unusedSectionVars false
set_option linter.unnecessarySimpa false
namespace Go.Vm
namespace X
open W Go.Proofs.St
def bytes (L:List Int):Prop:=∀x∈L,0≤x∧x≤255
def Valid (s:List Int×List Int):Prop:=s.1.length≤32∧s.1.length=s.2.length+1∧(∀x∈s.1,1≤x∧x≤64)∧∀x∈s.2,1≤x∧x≤3
theorem strips_Check_valid {a:List Int×List Int} (h:Valid a):strips_Check fuel a=some 0:=by
 obtain⟨h1,h2,h3,h4⟩:=h
 apply Ret.eq
 unfold strips_Check
 refine Ret_dec (fun h=>absurd h (by omega)) fun _=>?_
 refine Ret_chk (i64b_t (by omega) (by omega)) ?_
 refine Ret_dec (fun h=>absurd h (by omega)) fun _=>?_
 refine Ret_loop (Inv:=fun x:Int=>0≤x∧x≤a.1.length) (m:=fun x:Int=>((a.1.length:Int)-x).toNat) ?_ _ _ ⟨by omega,by omega⟩ (by unfold fuel;omega)
 intro x rec ⟨i1,i2⟩ ih
 refine Ret_dec (fun hlt=>?_) fun hge=>?_
 ·have:=h3 _ (getD_mem (i:=x.toNat) (by omega))
  refine Ret_chk (inb_t i1 hlt) ?_
  refine Ret_dec (fun h=>absurd h (by omega)) fun _=>Ret_dec (fun h=>absurd h (by omega)) fun _=>Ret_chk (i64b_t (by omega) (by omega)) (ih _ ⟨by omega,by omega⟩ (by omega))
 ·refine Ret_loop (Inv:=fun x:Int=>0≤x∧x≤a.2.length) (m:=fun x:Int=>((a.2.length:Int)-x).toNat) ?_ _ _ ⟨by omega,by omega⟩ (by unfold fuel;omega)
  intro x rec ⟨i1,i2⟩ ih
  refine Ret_dec (fun hlt=>?_) fun hge=>Ret_some rfl
  have:=h4 _ (getD_mem (i:=x.toNat) (by omega))
  refine Ret_chk (inb_t i1 hlt) ?_
  exact Ret_dec (fun h=>absurd h (by omega)) fun _=>Ret_dec (fun h=>absurd h (by omega)) fun _=>Ret_chk (i64b_t (by omega) (by omega)) (ih _ ⟨by omega,by omega⟩ (by omega))
end X
end Go.Vm
namespace Go.Vm
namespace X
open W Go.Proofs.St
theorem okL_valid {s:List Int×List Int} (h:Valid s):okL s.1=true:=by
 obtain⟨h1,h2,h3,_⟩:=h
 unfold okL
 simp only[Bool.and_eq_true,ble_dec,decide_eq_true_eq]
 exact⟨⟨List.all_eq_true.2 fun x hx=>by simpa using h3 x hx,by omega⟩,h1⟩
theorem strips_Ends_valid {s:List Int×List Int} (h:Valid s):strips_Ends fuel s=some (endsL s.1,0):=by
 unfold strips_Ends endsR
 rw[strips_Check_valid h]
 simp only[decide_true,cond_true,okL_valid h]
theorem endsL_len (L:List Int):(endsL L).length=L.length+1:=by simp[endsL]
theorem endsL_getD {L:List Int} {i:Nat} (h:i≤L.length):(endsL L).getD i 0=eAt L i:=by
 unfold endsL
 rw[List.getD,List.getElem?_map,List.getElem?_range (by omega)]
 rfl
def lo (E:List Int):Nat→Int
 | 0=>E.getD 0 0
 | k+1=>min (lo E k) (E.getD (k+1) 0)
def hi (E:List Int):Nat→Int
 | 0=>E.getD 0 0
 | k+1=>max (hi E k) (E.getD (k+1) 0)
end X
end Go.Vm
namespace Go.Vm
namespace X
open W Go.Proofs.St
def okI (L:List Int):Prop:=∀x∈L,1≤x∧x≤64
def okK (L:List Int):Prop:=∀x∈L,1≤x∧x≤3
instance {L:List Int}:Decidable (okI L):=inferInstanceAs (Decidable (∀x∈L,1≤x∧x≤64))
instance {L:List Int}:Decidable (okK L):=inferInstanceAs (Decidable (∀x∈L,1≤x∧x≤3))
theorem all_of_getD {L:List Int} {P:Int→Prop} (h:∀i:Nat,i<L.length→P (L.getD i 0)):∀x∈L,P x:=fun x hx=>by
 obtain⟨i,hi,rfl⟩:=List.mem_iff_getElem.1 hx
 have:=h i hi
 simpa[List.getD,List.getElem?_eq_getElem hi] using this
def ckS (a:List Int×List Int):Int:=if 32<a.1.length then 3 else if a.1.length≠a.2.length+1 then 5 else if okI a.1∧okK a.2 then 0 else 1
theorem check_spec {a:List Int×List Int} (h:a.2.length≤1000):strips_Check fuel a=some (ckS a):=by
 apply Ret.eq
 unfold strips_Check ckS
 refine Ret_dec (fun h=>?_) fun h1=>?_
 ·rw[if_pos (by omega)];exact Ret_some rfl
 rw[if_neg (by omega)]
 refine Ret_chk (i64b_t (by omega) (by omega)) ?_
 refine Ret_dec (fun h=>?_) fun h2=>?_
 ·rw[if_pos (by omega)];exact Ret_some rfl
 rw[if_neg (by omega)]
 refine Ret_loop (Inv:=fun x:Int=>0≤x∧x≤a.1.length∧∀i:Nat,(i:Int)<x→1≤a.1.getD i 0∧a.1.getD i 0≤64) (m:=fun x:Int=>((a.1.length:Int)-x).toNat) ?_ _ _ ⟨by omega,by omega,fun i hi=>by omega⟩ (by unfold fuel;omega)
 intro x rec ⟨i1,i2,i3⟩ ih
 refine Ret_dec (fun hlt=>?_) fun hge=>?_
 ·have hm:=getD_mem (L:=a.1) (i:=x.toNat) (by omega)
  refine Ret_chk (inb_t i1 hlt) ?_
  refine Ret_dec (fun h=>Ret_some ?_) fun ha=>Ret_dec (fun h=>Ret_some ?_) fun hb=>Ret_chk (i64b_t (by omega) (by omega)) (ih _ ⟨by omega,by omega,fun i hi=>?_⟩ (by omega))
  ·rw[if_neg];rintro ⟨k1,_⟩;have:=(k1 _ hm).1;omega
  ·rw[if_neg];rintro ⟨k1,_⟩;have:=(k1 _ hm).2;omega
  ·by_cases hix:(i:Int)=x
   ·rw[←hix,Int.toNat_natCast] at ha hb;omega
   ·exact i3 i (by omega)
 ·have hI:okI a.1:=all_of_getD fun i hi=>i3 i (by omega)
  refine Ret_loop (Inv:=fun x:Int=>0≤x∧x≤a.2.length∧∀i:Nat,(i:Int)<x→1≤a.2.getD i 0∧a.2.getD i 0≤3) (m:=fun x:Int=>((a.2.length:Int)-x).toNat) ?_ _ _ ⟨by omega,by omega,fun i hi=>by omega⟩ (by unfold fuel;omega)
  intro x rec ⟨i1,i2,i3⟩ ih
  refine Ret_dec (fun hlt=>?_) fun hge=>?_
  ·have hm:=getD_mem (L:=a.2) (i:=x.toNat) (by omega)
   refine Ret_chk (inb_t i1 hlt) ?_
   refine Ret_dec (fun h=>Ret_some ?_) fun ha=>Ret_dec (fun h=>Ret_some ?_) fun hb=>Ret_chk (i64b_t (by omega) (by omega)) (ih _ ⟨by omega,by omega,fun i hi=>?_⟩ (by omega))
   ·rw[if_neg];rintro ⟨_,k1⟩;have:=(k1 _ hm).1;omega
   ·rw[if_neg];rintro ⟨_,k1⟩;have:=(k1 _ hm).2;omega
   ·by_cases hix:(i:Int)=x
    ·rw[←hix,Int.toNat_natCast] at ha hb;omega
    ·exact i3 i (by omega)
  ·rw[if_pos ⟨hI,all_of_getD fun i hi=>i3 i (by omega)⟩];exact Ret_some rfl
theorem ckS_valid {a:List Int×List Int}:ckS a=0↔Valid a:=by
 unfold ckS Valid
 by_cases h1:32<a.1.length
 ·rw[if_pos h1];constructor
  ·intro h;cases h
  ·intro h;omega
 rw[if_neg h1]
 by_cases h2:a.1.length≠a.2.length+1
 ·rw[if_pos h2];constructor
  ·intro h;cases h
  ·intro h;omega
 rw[if_neg h2]
 by_cases h3:okI a.1∧okK a.2
 ·rw[if_pos h3];exact⟨fun _=>⟨by omega,by omega,h3.1,h3.2⟩,fun _=>rfl⟩
 ·rw[if_neg h3];constructor
  ·intro h;cases h
  ·intro h;exact absurd ⟨h.2.2.1,h.2.2.2⟩ h3
end X
end Go.Vm
namespace Go.Vm
namespace X
open W Go.Proofs.St
theorem wrap_u8 {n:Int} (h1:0≤n) (h2:n≤255):IntKind.u8.wrap n=n:=by
 simp[IntKind.wrap,IntKind.bits,IntKind.signed];omega
def OfQ (s:List Int×List Int):Prop:=1≤s.1.length∧s.1.length≤12∧s.1.length=s.2.length+1∧(∀x∈s.1,1≤x∧x≤8)∧∀x∈s.2,1≤x∧x≤3
theorem OfQ.valid {s:List Int×List Int} (h:OfQ s):Valid s:=⟨by have:=h.2.1;omega,h.2.2.1,fun x hx=>by have:=h.2.2.2.1 x hx;omega,h.2.2.2.2⟩
theorem mem_snoc {L:List Int} {a:Int} {P:Int→Prop} (h:∀x∈L,P x) (ha:P a):∀x∈L++[a],P x:=fun x hx=>by
 rcases List.mem_append.1 hx with h1 | h1
 ·exact h x h1
 ·rw[List.mem_singleton.1 h1];exact ha
end X
end Go.Vm
namespace Go.Vm
namespace X
open W Go.Proofs.St
theorem clone_int {a:List Int} (h:a.length≤10000):slices_Clone_int fuel a=some a:=by
 unfold slices_Clone_int;rw[lenOk_t (by omega)];rfl
theorem clone_kind {a:List Int} (h:a.length≤10000):slices_Clone_api_Kind fuel a=some a:=by
 unfold slices_Clone_api_Kind;rw[lenOk_t (by omega)];rfl
theorem getD_set {L:List Int} {i k:Nat} {v:Int} (hi:i<L.length):(L.set i v).getD k 0=if k=i then v else L.getD k 0:=by
 simp only[List.getD,List.getElem?_set]
 by_cases h:i=k
 ·subst h;simp[hi]
 ·simp[h,Ne.symm h]
theorem ends_err {a:List Int×List Int} (h:a.2.length≤1000) (he:ckS a≠0):strips_Ends fuel a=some ([],ckS a):=by
 unfold strips_Ends endsR
 rw[check_spec h]
 simp[he]
end X
end Go.Vm
namespace Go.Vm
namespace X
open W Go.Proofs.St
theorem chk_t {β:Type} {c:Bool} {x:Option β} (h:c=true):chk c x=x:=by rw[h];rfl
def frm (E:List Int) (i:Nat):Int:=min (E.getD i 0) (E.getD (i+1) 0)
def too (E:List Int) (i:Nat):Int:=max (E.getD i 0) (E.getD (i+1) 0)
theorem from_ok {L K E:List Int} {i:Int} (h0:0≤i) (h1:i+1<E.length) (h2:E.length≤10000):piles_folded_from fuel (((L,K),E),i)=some (frm E i.toNat):=by
 unfold piles_folded_from
 rw[chk_t (inb_t h0 (by simp only;omega)),chk_t (i64b_t (by simp only;omega) (by simp only;omega)),chk_t (inb_t (by simp only;omega) (by simp only;omega))]
 simp only[frm,show(i+1).toNat=i.toNat+1 by omega]
theorem to_ok {L K E:List Int} {i:Int} (h0:0≤i) (h1:i+1<E.length) (h2:E.length≤10000):piles_folded_to fuel (((L,K),E),i)=some (too E i.toNat):=by
 unfold piles_folded_to
 rw[chk_t (inb_t h0 (by simp only;omega)),chk_t (i64b_t (by simp only;omega) (by simp only;omega)),chk_t (inb_t (by simp only;omega) (by simp only;omega))]
 simp only[too,show(i+1).toNat=i.toNat+1 by omega]
def ovl (E:List Int) (i k:Nat):Bool:=decide (frm E i<too E k)&&decide (frm E k<too E i)
theorem of_ok {s:List Int×List Int} (h:Valid s):piles_of fuel s=some ((s,endsL s.1),0):=by
 unfold piles_of
 rw[show(s.1,s.2)=s from rfl,strips_Ends_valid h]
 simp only[Option.bind_some]
 rw[chk_t (by simp[capIs])]
theorem of_err {s:List Int×List Int} (h:s.2.length≤1000) (he:ckS s≠0):piles_of fuel s=some ((s,[]),ckS s):=by
 unfold piles_of
 rw[show(s.1,s.2)=s from rfl,ends_err h he]
 simp only[Option.bind_some]
 rw[chk_t (by simp[capIs])]
def In (n:Nat) (p:List Int):Prop:=∀x∈p,0≤x∧x<n
def idL (n:Nat):List Int:=(List.range n).map Int.ofNat
theorem idL_len (n:Nat):(idL n).length=n:=by simp[idL]
theorem idL_snoc (n:Nat):idL (n+1)=idL n++[(n:Int)]:=by simp[idL,List.range_succ]
theorem mem_idL {n:Nat} {x:Int}:x∈idL n↔0≤x∧x<n:=by
 simp only[idL,List.mem_map,List.mem_range]
 constructor
 ·rintro ⟨a,h,rfl⟩;exact⟨by simp,by simp;omega⟩
 ·intro h;exact⟨x.toNat,by omega,by simp;omega⟩
theorem idL_nodup (n:Nat):(idL n).Nodup:=by
 unfold idL
 exact List.nodup_range.map (f:=Int.ofNat) (fun a b h h2=>h (Int.ofNat.inj h2))
def Ord (n:Nat) (p:List Int):Prop:=p.Perm (idL n)
theorem Ord.len {n:Nat} {p:List Int} (h:Ord n p):p.length=n:=by rw[h.length_eq,idL_len]
theorem Ord.in {n:Nat} {p:List Int} (h:Ord n p):In n p:=fun x hx=>mem_idL.1 (h.mem_iff.1 hx)
theorem Ord.nodup {n:Nat} {p:List Int} (h:Ord n p):p.Nodup:=h.nodup_iff.2 (idL_nodup n)
theorem Ord.mem {n:Nat} {p:List Int} (h:Ord n p) {i:Nat} (hi:i<n):(i:Int)∈p:=h.mem_iff.2 (mem_idL.2 ⟨by omega,by omega⟩)
end X
end Go.Vm
namespace Go.Vm
namespace X
open W Go.Proofs.St
theorem E_at {s:List Int×List Int} (h:Valid s) {i:Nat} (hi:i≤s.1.length):(endsL s.1).getD i 0=eAt s.1 i:=endsL_getD hi
end X
end Go.Vm
namespace Go.Vm
namespace X
open W Go.Proofs.St
end X
end Go.Vm
namespace Go.Vm
namespace X
open W Go.Proofs.St
end X
end Go.Vm
