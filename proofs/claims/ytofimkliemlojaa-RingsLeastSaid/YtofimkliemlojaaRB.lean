/-
  Rings: what is shared with the piles of strips.
  Rings: crossing, by creases and by stacks.
-/
import Derived.Test.YtofimkliemlojaaQ7
import Derived.Test.YtofimkliemlojaaXG7
import Derived.KernelRfl
set_option linter.unusedSimpArgs false
set_option linter.unusedVariables false
set_option linter.unusedSectionVars false
set_option linter.unnecessarySimpa false
namespace Go.Vm
namespace X
open W
def bytes (L:List Int):Prop:=∀x∈L,0≤x∧x≤255
theorem wrap_u8 {n:Int} (h1:0≤n) (h2:n≤255):IntKind.u8.wrap n=n:=by
 simp[IntKind.wrap,IntKind.bits,IntKind.signed];omega
theorem mem_snoc {L:List Int} {a:Int} {P:Int→Prop} (h:∀x∈L,P x) (ha:P a):∀x∈L++[a],P x:=fun x hx=>by
 rcases List.mem_append.1 hx with h1 | h1
 ·exact h x h1
 ·rw[List.mem_singleton.1 h1];exact ha
theorem getD_set {L:List Int} {i k:Nat} {v:Int} (hi:i<L.length):(L.set i v).getD k 0=if k=i then v else L.getD k 0:=by
 simp only[List.getD,List.getElem?_set]
 by_cases h:i=k
 ·subst h;simp[hi]
 ·simp[h,Ne.symm h]
theorem take_snoc {L:List Int} {i:Nat} (h:i<L.length):L.take (i+1)=L.take i++[L.getD i 0]:=by
 rw[List.take_add_one,List.getD,List.getElem?_eq_getElem h];rfl
theorem chk_t {β:Type} {c:Bool} {x:Option β} (h:c=true):chk c x=x:=by rw[h];rfl
def frm (E:List Int) (i:Nat):Int:=min (E.getD i 0) (E.getD (i+1) 0)
def too (E:List Int) (i:Nat):Int:=max (E.getD i 0) (E.getD (i+1) 0)
def In (n:Nat) (p:List Int):Prop:=∀x∈p,0≤x∧x<n
def idL (n:Nat):List Int:=(List.range n).map Int.ofNat
theorem idL_len (n:Nat):(idL n).length=n:=by simp[idL]
theorem idL_snoc (n:Nat):idL (n+1)=idL n++[(n:Int)]:=by simp[idL,List.range_succ]
theorem mem_idL {n:Nat} {x:Int}:x∈idL n↔0≤x∧x<n:=by
 simp only[idL,List.mem_map,List.mem_range]
 constructor
 ·rintro ⟨a,h,rfl⟩;exact⟨by simp,by simp;omega⟩
 ·intro h;exact⟨x.toNat,by omega,by simp;omega⟩
theorem idL_nodup (n:Nat):(idL n).Nodup:=by
 unfold idL
 exact List.nodup_range.map (f:=Int.ofNat) (fun a b h h2=>h (Int.ofNat.inj h2))
def Ord (n:Nat) (p:List Int):Prop:=p.Perm (idL n)
theorem Ord.len {n:Nat} {p:List Int} (h:Ord n p):p.length=n:=by rw[h.length_eq,idL_len]
theorem Ord.in {n:Nat} {p:List Int} (h:Ord n p):In n p:=fun x hx=>mem_idL.1 (h.mem_iff.1 hx)
theorem Ord.nodup {n:Nat} {p:List Int} (h:Ord n p):p.Nodup:=h.nodup_iff.2 (idL_nodup n)
theorem Ord.mem {n:Nat} {p:List Int} (h:Ord n p) {i:Nat} (hi:i<n):(i:Int)∈p:=h.mem_iff.2 (mem_idL.2 ⟨by omega,by omega⟩)
theorem left_loop {n:Nat} (hn:n≤1000) {K:List Int→Option (List Int)} {Q:List Int→Prop} (hK:Ret (K (idL n)) Q):
  Ret (loopF (fun rec1 (x1:((List Int)×Int))=>bif(decide (x1.2< (n:Int))) then(chk (lenOk (x1.1.length+1)) (chk (i64b (x1.2+1)) (rec1 ((x1.1++[x1.2]),(x1.2+1))))) else K x1.1) fuel ([],0)) Q:=by
 refine Ret_loop (Inv:=fun x:List Int×Int=>0≤x.2∧x.2≤n∧x.1=idL x.2.toNat) (m:=fun x=>((n:Int)-x.2).toNat) ?_ _ _ ⟨by simp,by simp,rfl⟩ (by simp only[fuel];omega)
 rintro ⟨out,i⟩ rec ⟨i1,i2,i3⟩ ih
 simp only at i1 i2 i3 ⊢
 obtain⟨k,rfl⟩:=Int.eq_ofNat_of_zero_le i1
 simp only[Int.toNat_natCast] at i3
 subst i3
 refine Ret_dec (fun hlt=>?_) fun hge=>?_
 ·refine Ret_chk (lenOk_t (by rw[idL_len];omega)) (Ret_chk (i64b_t (by omega) (by omega)) (ih _ ⟨by simp only;omega,by simp only;omega,?_⟩ (by simp only;omega)))
  simp only
  rw[show((k:Int)+1).toNat=k+1 by omega,idL_snoc]
 ·rw[show k=n by omega];exact hK
theorem take_drop_all {L:List Int} {k:Nat}:(L.drop (k+1)).take (L.length-(k+1))=L.drop (k+1):=List.take_of_length_le (by simp)
theorem O_Of_ok {y:List Int} (hy:bytes y) {n:Nat} (hn:n≤1000):Ret (law17_O_Of fuel (y,(n:Int))) fun p=>Ord n p:=by
 unfold law17_O_Of
 refine left_loop (n:=n) hn (K:=fun l=>loopF _ fuel (l,([],0))) ?_
 refine Ret_loop (Inv:=fun x:List Int×(List Int×Int)=>0≤x.2.2∧x.2.2≤n∧(x.1++x.2.1).Perm (idL n)∧(x.1.length:Int)=n-x.2.2) (m:=fun x=>((n:Int)-x.2.2).toNat) ?_ _ _ ⟨by simp,by simp,by simp,by simp[idL_len]⟩ (by simp only[fuel];omega)
 rintro ⟨left,out,i⟩ rec ⟨i1,i2,i3,i4⟩ ih
 simp only at i1 i2 i3 i4 ⊢
 have hlen:=i3.length_eq
 rw[List.length_append,idL_len] at hlen
 have perm:∀k:Nat,k<left.length→((left.take k++left.drop (k+1))++(out++[left.getD k 0])).Perm (idL n):=fun k hk=>by
  refine List.Perm.trans ?_ i3
  have e:left=left.take k++left.getD k 0::left.drop (k+1):=by
   rw[List.getD,List.getElem?_eq_getElem hk]
   exact(List.take_append_drop k left).symm.trans (by rw[List.drop_eq_getElem_cons hk];rfl)
  conv=>rhs;rw[e]
  simp only[List.append_assoc,List.cons_append]
  refine List.Perm.append_left _ ?_
  refine List.Perm.trans ?_ List.perm_middle
  refine List.Perm.append_left _ ?_
  exact List.perm_append_comm
 refine Ret_dec (fun hlt=>?_) fun hge=>?_
 ·have nxt:∀k:Nat,k<left.length→Ret (rec (left.take k++left.drop (k+1),(out++[left.getD k 0],i+1))) fun p=>Ord n p:=fun k hk=>
   ih _ ⟨by simp only;omega,by simp only;omega,perm k hk,by simp only[List.length_append,List.length_take,List.length_drop];omega⟩ (by simp only;omega)
  refine Ret_dec (fun hiy=>?_) fun hiy=>?_
  ·have hb:=hy _ (getD_mem (L:=y) (i:=i.toNat) (by omega))
   generalize y.getD i.toNat 0=b at hb ⊢
   have hm1:=Int.emod_nonneg b (show((left.length:Nat):Int)≠0 by omega)
   have hm2:=Int.emod_lt_of_pos b (show 0< ((left.length:Nat):Int) by omega)
   generalize b% ((left.length:Nat):Int)=k at hm1 hm2 ⊢
   obtain⟨k,rfl⟩:=Int.eq_ofNat_of_zero_le hm1
   rw[show((k:Int)+1).toNat=k+1 by omega,take_drop_all]
   simp only[Int.toNat_natCast]
   refine Ret_chk (inb_t (by omega) (by omega)) (Ret_chk (i64b_t (by omega) (by omega)) (Ret_chk (by rw[Bool.and_eq_true];exact⟨decide_eq_true (by omega),decide_eq_true (by omega)⟩) (Ret_chk (inb_t (by omega) (by omega)) (Ret_chk (lenOk_t (by omega)) (Ret_chk (by simp[bnb];omega) (Ret_chk (i64b_t (by omega) (by omega)) (Ret_chk (by simp[bnb];omega) (Ret_chk ?_ (Ret_chk (i64b_t (by omega) (by omega)) (nxt k (by omega)))))))))))
   simp[lenOk,ble_dec]
   omega
  ·rw[show(1:Nat)=0+1 from rfl,take_drop_all]
   refine Ret_chk (inb_t (by omega) (by omega)) (Ret_chk (lenOk_t (by omega)) (Ret_chk (by simp[bnb]) (Ret_chk (by simp[bnb];omega) (Ret_chk ?_ (Ret_chk (i64b_t (by omega) (by omega)) (nxt 0 (by omega)))))))
   simp[lenOk,ble_dec]
   omega
 ·have:left=[]:=List.eq_nil_of_length_eq_zero (by omega)
  subst this
  exact Ret_some (by rw[List.nil_append] at i3;exact i3)
theorem not_mem_getD {o:List Int} {g:Int} (h:∀k:Nat,k<o.length→o.getD k 0≠g):g∉o:=fun hm=>by
 obtain⟨k,hk,e⟩:=List.mem_iff_getElem.1 hm
 exact h k hk (by rw[List.getD,List.getElem?_eq_getElem hk];exact e)
def Rk (p r:List Int):Prop:=∀i:Nat,i<p.length→r.getD (p.getD i 0).toNat 0=i
theorem getD_inj {p:List Int} (h:p.Nodup) {i j:Nat} (hi:i<p.length) (hj:j<p.length) (e:p.getD i 0=p.getD j 0):i=j:=by
 rw[List.getD,List.getD,List.getElem?_eq_getElem hi,List.getElem?_eq_getElem hj] at e
 exact(List.getElem_inj h).1 e
theorem set_rk {p r:List Int} {i:Nat} (hd:p.Nodup) {n:Nat} (hp:In n p) (hr:n≤r.length) (hi:i<p.length) (h:∀k:Nat,k<i→r.getD (p.getD k 0).toNat 0=k):
  ∀k:Nat,k<i+1→(r.set (p.getD i 0).toNat (i:Int)).getD (p.getD k 0).toNat 0=k:=fun k hk=>by
 have b1:=hp _ (getD_mem (L:=p) (i:=i) hi)
 have b2:=hp _ (getD_mem (L:=p) (i:=k) (by omega))
 rw[getD_set (by omega)]
 by_cases e:k=i
 ·subst e;rw[if_pos rfl]
 ·rw[if_neg (fun e2=>e (getD_inj hd (by omega) hi (by omega))),h k (by omega)]
theorem perm_of_sub:∀ {l p:List Int},l.Nodup→(∀x∈l,x∈p)→∃q,p.Perm (l++q)
 | [],p,_,_=>⟨p,List.Perm.refl _⟩
 | a::l,p,hn,h=>by
   obtain⟨h1,h2⟩:=List.nodup_cons.1 hn
   have ha:=h a List.mem_cons_self
   obtain⟨q,hq⟩:=perm_of_sub (l:=l) (p:=p.erase a) h2 fun x hx=>(List.mem_erase_of_ne (fun e:x=a=>h1 (by rw[←e];exact hx))).2 (h x (List.mem_cons_of_mem _ hx))
   exact⟨q,(List.perm_cons_erase ha).trans (hq.cons a)⟩
theorem ord_of {n:Nat} {p:List Int} (hl:p.length=n) (h:∀i:Nat,i<n→(i:Int)∈p):Ord n p:=by
 obtain⟨q,hq⟩:=perm_of_sub (idL_nodup n) (p:=p) fun x hx=>by
  have:=mem_idL.1 hx
  have:=h x.toNat (by omega)
  rwa[show((x.toNat:Nat):Int)=x by omega] at this
 have:=hq.length_eq
 rw[List.length_append,idL_len] at this
 have:q=[]:=List.eq_nil_of_length_eq_zero (by omega)
 subst this
 rw[List.append_nil] at hq
 exact hq
def rkF (p:List Int) (x:Int):Int:=(p.idxOf x:Nat)
theorem rkF_at {p:List Int} (h:p.Nodup) {i:Nat} (hi:i<p.length):rkF p (p.getD i 0)=i:=by
 rw[List.getD,List.getElem?_eq_getElem hi,Option.getD_some,rkF,h.idxOf_getElem i hi]
theorem at_rkF {p:List Int} {x:Int} (h:x∈p):(rkF p x).toNat<p.length∧p.getD (rkF p x).toNat 0=x∧0≤rkF p x:=by
 have h1:=List.idxOf_lt_length_of_mem h
 unfold rkF
 refine⟨by omega,?_,by omega⟩
 rw[Int.toNat_natCast,List.getD,List.getElem?_eq_getElem h1,Option.getD_some,List.getElem_idxOf h1]
theorem Rk.rk {p r:List Int} (h:Rk p r) (hn:p.Nodup) {x:Int} (hx:x∈p):r.getD x.toNat 0=rkF p x:=by
 obtain⟨h1,h2,h3⟩:=at_rkF hx
 have:=h _ h1
 rw[h2] at this
 rw[this];omega
theorem rkF_inj {p:List Int} {x y:Int} (hx:x∈p) (hy:y∈p) (h:rkF p x=rkF p y):x=y:=by
 rw[←(at_rkF hx).2.1,h,(at_rkF hy).2.1]
theorem Ord.memI {n:Nat} {p:List Int} (h:Ord n p) {x:Int} (h0:0≤x) (h1:x<n):x∈p:=h.mem_iff.2 (mem_idL.2 ⟨h0,h1⟩)
theorem Rk.eqF {p r:List Int} {n:Nat} (h:Rk p r) (hp:Ord n p):∀x:Int,0≤x→x<n→r.getD x.toNat 0=rkF p x:=fun x h0 h1=>h.rk hp.nodup (hp.memI h0 h1)
end X
end Go.Vm
namespace Go.Vm
namespace X
open W
structure REnds (E:List Int) (n:Nat):Prop where
 len:E.length=n+1
 two:2≤n
 even:n%2=0
 closed:E.getD n 0=E.getD 0 0
 up:∀i:Nat,i<n→i%2=0→E.getD i 0<E.getD (i+1) 0
 down:∀i:Nat,i<n→i%2=1→E.getD (i+1) 0<E.getD i 0
def sc (n:Nat) (i:Int):Int:=if i+1<n then i+1 else 0
section
variable {E:List Int} {n:Nat} (h:REnds E n)
include h
theorem REnds.ne {i:Nat} (hi:i<n):E.getD i 0≠E.getD (i+1) 0:=by
 rcases Nat.mod_two_eq_zero_or_one i with e | e
 ·have:=h.up i hi e;omega
 ·have:=h.down i hi e;omega
end
def BetR (n:Nat) (f:Int→Int) (i x:Int):Prop:=min (f i) (f (sc n i))<f x∧f x<max (f i) (f (sc n i))
section
variable {E:List Int} {n:Nat} (h:REnds E n) {p:List Int} (hp:Ord n p) {t u:Int} (hu:u=t-1∨u=t)
include h hp hu
variable {f:Int→Int} (hf:p.Pairwise fun a b=>f a<f b)
include hf
end
end X
end Go.Vm
