/-
  Rings: what is shared with the piles of strips.
  Rings: crossing, by creases and by stacks.
  Rings: plain laws: the law's rings, Check, of, ends.
  Rings: plain laws: the law's rings are valid.
-/
import Derived.Test.YtofimkliemlojaaQ7
import Derived.Test.YtofimkliemlojaaXG7
import Derived.KernelRfl
set_option linter.unusedSimpArgs false
set_option linter.unusedVariables false
set_option linter.unusedSectionVars false
set_option linter.unnecessarySimpa false
namespace Go.Vm
namespace X
open W
def bytes (L:List Int):Prop:=∀x∈L,0≤x∧x≤255
theorem wrap_u8 {n:Int} (h1:0≤n) (h2:n≤255):IntKind.u8.wrap n=n:=by
 simp[IntKind.wrap,IntKind.bits,IntKind.signed];omega
theorem mem_snoc {L:List Int} {a:Int} {P:Int→Prop} (h:∀x∈L,P x) (ha:P a):∀x∈L++[a],P x:=fun x hx=>by
 rcases List.mem_append.1 hx with h1 | h1
 ·exact h x h1
 ·rw[List.mem_singleton.1 h1];exact ha
theorem getD_set {L:List Int} {i k:Nat} {v:Int} (hi:i<L.length):(L.set i v).getD k 0=if k=i then v else L.getD k 0:=by
 simp only[List.getD,List.getElem?_set]
 by_cases h:i=k
 ·subst h;simp[hi]
 ·simp[h,Ne.symm h]
theorem take_snoc {L:List Int} {i:Nat} (h:i<L.length):L.take (i+1)=L.take i++[L.getD i 0]:=by
 rw[List.take_add_one,List.getD,List.getElem?_eq_getElem h];rfl
theorem chk_t {β:Type} {c:Bool} {x:Option β} (h:c=true):chk c x=x:=by rw[h];rfl
def frm (E:List Int) (i:Nat):Int:=min (E.getD i 0) (E.getD (i+1) 0)
def too (E:List Int) (i:Nat):Int:=max (E.getD i 0) (E.getD (i+1) 0)
def In (n:Nat) (p:List Int):Prop:=∀x∈p,0≤x∧x<n
def idL (n:Nat):List Int:=(List.range n).map Int.ofNat
theorem idL_len (n:Nat):(idL n).length=n:=by simp[idL]
theorem idL_snoc (n:Nat):idL (n+1)=idL n++[(n:Int)]:=by simp[idL,List.range_succ]
theorem mem_idL {n:Nat} {x:Int}:x∈idL n↔0≤x∧x<n:=by
 simp only[idL,List.mem_map,List.mem_range]
 constructor
 ·rintro ⟨a,h,rfl⟩;exact⟨by simp,by simp;omega⟩
 ·intro h;exact⟨x.toNat,by omega,by simp;omega⟩
theorem idL_nodup (n:Nat):(idL n).Nodup:=by
 unfold idL
 exact List.nodup_range.map (f:=Int.ofNat) (fun a b h h2=>h (Int.ofNat.inj h2))
def Ord (n:Nat) (p:List Int):Prop:=p.Perm (idL n)
theorem Ord.len {n:Nat} {p:List Int} (h:Ord n p):p.length=n:=by rw[h.length_eq,idL_len]
theorem Ord.in {n:Nat} {p:List Int} (h:Ord n p):In n p:=fun x hx=>mem_idL.1 (h.mem_iff.1 hx)
theorem Ord.nodup {n:Nat} {p:List Int} (h:Ord n p):p.Nodup:=h.nodup_iff.2 (idL_nodup n)
theorem Ord.mem {n:Nat} {p:List Int} (h:Ord n p) {i:Nat} (hi:i<n):(i:Int)∈p:=h.mem_iff.2 (mem_idL.2 ⟨by omega,by omega⟩)
def Rk (p r:List Int):Prop:=∀i:Nat,i<p.length→r.getD (p.getD i 0).toNat 0=i
theorem getD_inj {p:List Int} (h:p.Nodup) {i j:Nat} (hi:i<p.length) (hj:j<p.length) (e:p.getD i 0=p.getD j 0):i=j:=by
 rw[List.getD,List.getD,List.getElem?_eq_getElem hi,List.getElem?_eq_getElem hj] at e
 exact(List.getElem_inj h).1 e
theorem set_rk {p r:List Int} {i:Nat} (hd:p.Nodup) {n:Nat} (hp:In n p) (hr:n≤r.length) (hi:i<p.length) (h:∀k:Nat,k<i→r.getD (p.getD k 0).toNat 0=k):
  ∀k:Nat,k<i+1→(r.set (p.getD i 0).toNat (i:Int)).getD (p.getD k 0).toNat 0=k:=fun k hk=>by
 have b1:=hp _ (getD_mem (L:=p) (i:=i) hi)
 have b2:=hp _ (getD_mem (L:=p) (i:=k) (by omega))
 rw[getD_set (by omega)]
 by_cases e:k=i
 ·subst e;rw[if_pos rfl]
 ·rw[if_neg (fun e2=>e (getD_inj hd (by omega) hi (by omega))),h k (by omega)]
theorem Ret_list {ι σ β:Type} {done:σ→Option β} {step:ι→(σ→Option β)→σ→Option β} {Q:β→Prop} (Inv:List ι→σ→Prop) (h0:∀x,Inv [] x→Ret (done x) Q)
  (h1:∀y l rec x,Inv (y::l) x→(∀x',Inv l x'→Ret (rec x') Q)→Ret (step y rec x) Q):∀l x,Inv l x→Ret (listF done step l x) Q
 | [],x,h=>h0 x h
 | y::l,x,h=>h1 y l _ x h fun x' h'=>Ret_list Inv h0 h1 l x' h'
theorem perm_of_sub:∀ {l p:List Int},l.Nodup→(∀x∈l,x∈p)→∃q,p.Perm (l++q)
 | [],p,_,_=>⟨p,List.Perm.refl _⟩
 | a::l,p,hn,h=>by
   obtain⟨h1,h2⟩:=List.nodup_cons.1 hn
   have ha:=h a List.mem_cons_self
   obtain⟨q,hq⟩:=perm_of_sub (l:=l) (p:=p.erase a) h2 fun x hx=>(List.mem_erase_of_ne (fun e:x=a=>h1 (by rw[←e];exact hx))).2 (h x (List.mem_cons_of_mem _ hx))
   exact⟨q,(List.perm_cons_erase ha).trans (hq.cons a)⟩
theorem ord_of {n:Nat} {p:List Int} (hl:p.length=n) (h:∀i:Nat,i<n→(i:Int)∈p):Ord n p:=by
 obtain⟨q,hq⟩:=perm_of_sub (idL_nodup n) (p:=p) fun x hx=>by
  have:=mem_idL.1 hx
  have:=h x.toNat (by omega)
  rwa[show((x.toNat:Nat):Int)=x by omega] at this
 have:=hq.length_eq
 rw[List.length_append,idL_len] at this
 have:q=[]:=List.eq_nil_of_length_eq_zero (by omega)
 subst this
 rw[List.append_nil] at hq
 exact hq
def rkF (p:List Int) (x:Int):Int:=(p.idxOf x:Nat)
theorem rkF_at {p:List Int} (h:p.Nodup) {i:Nat} (hi:i<p.length):rkF p (p.getD i 0)=i:=by
 rw[List.getD,List.getElem?_eq_getElem hi,Option.getD_some,rkF,h.idxOf_getElem i hi]
theorem at_rkF {p:List Int} {x:Int} (h:x∈p):(rkF p x).toNat<p.length∧p.getD (rkF p x).toNat 0=x∧0≤rkF p x:=by
 have h1:=List.idxOf_lt_length_of_mem h
 unfold rkF
 refine⟨by omega,?_,by omega⟩
 rw[Int.toNat_natCast,List.getD,List.getElem?_eq_getElem h1,Option.getD_some,List.getElem_idxOf h1]
theorem rkF_pw {p:List Int} (h:p.Nodup):p.Pairwise fun a b=>rkF p a<rkF p b:=by
 rw[List.pairwise_iff_getElem]
 intro i j hi hj hij
 simp only[rkF,h.idxOf_getElem]
 omega
theorem Rk.rk {p r:List Int} (h:Rk p r) (hn:p.Nodup) {x:Int} (hx:x∈p):r.getD x.toNat 0=rkF p x:=by
 obtain⟨h1,h2,h3⟩:=at_rkF hx
 have:=h _ h1
 rw[h2] at this
 rw[this];omega
theorem rkF_inj {p:List Int} {x y:Int} (hx:x∈p) (hy:y∈p) (h:rkF p x=rkF p y):x=y:=by
 rw[←(at_rkF hx).2.1,h,(at_rkF hy).2.1]
theorem Ord.memI {n:Nat} {p:List Int} (h:Ord n p) {x:Int} (h0:0≤x) (h1:x<n):x∈p:=h.mem_iff.2 (mem_idL.2 ⟨h0,h1⟩)
theorem Rk.eqF {p r:List Int} {n:Nat} (h:Rk p r) (hp:Ord n p):∀x:Int,0≤x→x<n→r.getD x.toNat 0=rkF p x:=fun x h0 h1=>h.rk hp.nodup (hp.memI h0 h1)
end X
end Go.Vm
namespace Go.Vm
namespace X
open W
structure REnds (E:List Int) (n:Nat):Prop where
 len:E.length=n+1
 two:2≤n
 even:n%2=0
 closed:E.getD n 0=E.getD 0 0
 up:∀i:Nat,i<n→i%2=0→E.getD i 0<E.getD (i+1) 0
 down:∀i:Nat,i<n→i%2=1→E.getD (i+1) 0<E.getD i 0
def sc (n:Nat) (i:Int):Int:=if i+1<n then i+1 else 0
section
variable {E:List Int} {n:Nat} (h:REnds E n)
include h
theorem REnds.ne {i:Nat} (hi:i<n):E.getD i 0≠E.getD (i+1) 0:=by
 rcases Nat.mod_two_eq_zero_or_one i with e | e
 ·have:=h.up i hi e;omega
 ·have:=h.down i hi e;omega
theorem REnds.at_sc {i:Int} (h0:0≤i) (h1:i<n):E.getD (sc n i).toNat 0=E.getD (i.toNat+1) 0:=by
 unfold sc
 split
 ·rw[show(i+1).toNat=i.toNat+1 by omega]
 ·rw[show i.toNat+1=n by omega,h.closed];rfl
theorem REnds.sc_lt {i:Int} (h0:0≤i) (h1:i<n):0≤sc n i∧sc n i<n∧sc n i≠i∧(sc n i).toNat%2≠i.toNat%2:=by
 have:=h.two;have:=h.even
 unfold sc
 split<;>omega
end
def BetR (n:Nat) (f:Int→Int) (i x:Int):Prop:=min (f i) (f (sc n i))<f x∧f x<max (f i) (f (sc n i))
def CrossR (E:List Int) (n:Nat) (f:Int→Int):Prop:=∃i:Int,0≤i∧i<n∧((∃j:Int,0≤j∧j<n∧frm E j.toNat<E.getD (i.toNat+1) 0∧E.getD (i.toNat+1) 0<too E j.toNat∧BetR n f i j)∨
 ∃j:Int,0≤j∧j<n∧j≠i∧E.getD (j.toNat+1) 0=E.getD (i.toNat+1) 0∧(E.getD (i.toNat+1) 0<E.getD j.toNat 0↔E.getD (i.toNat+1) 0<E.getD i.toNat 0)∧¬(BetR n f i j↔BetR n f i (sc n j)))
section
variable {E:List Int} {n:Nat} (h:REnds E n) {p:List Int} (hp:Ord n p) {t u:Int} (hu:u=t-1∨u=t)
include h hp hu
variable {f:Int→Int} (hf:p.Pairwise fun a b=>f a<f b)
include hf
end
end X
end Go.Vm
namespace Go.Vm
namespace X
open W
def eR (L:List Int):Nat→Int
 | 0=>0
 | i+1=>eR L i+L.getD i 0* (1-2* ((i:Int)%2))
theorem eR_step {L:List Int} {i:Nat}:eR L (i+1)=eR L i+L.getD i 0* (1-2* ((i:Int)%2)):=rfl
def endR (L:List Int):List Int:=(List.range (L.length+1)).map (eR L)
theorem endR_len (L:List Int):(endR L).length=L.length+1:=by simp[endR]
theorem endR_getD {L:List Int} {i:Nat} (h:i≤L.length):(endR L).getD i 0=eR L i:=by
 unfold endR;rw[List.getD,List.getElem?_map,List.getElem?_range (by omega)];rfl
theorem eR_congr {L M:List Int}:∀i,(∀k,k<i→L.getD k 0=M.getD k 0)→eR L i=eR M i
 | 0,_=>rfl
 | i+1,h=>by rw[eR_step,eR_step,eR_congr i fun k hk=>h k (by omega),h i (by omega)]
theorem eR_set {L:List Int} {k:Nat} {v:Int} (hk:k<L.length):∀i,eR (L.set k v) i=eR L i+if k<i then(v-L.getD k 0)* (1-2* ((k:Int)%2)) else 0
 | 0=>by simp[eR]
 | i+1=>by
   rw[eR_step,eR_step,eR_set hk i,getD_set hk]
   by_cases e:i=k
   ·subst e
    rw[if_pos rfl,if_neg (by omega),if_pos (by omega),Int.sub_mul]
    omega
   ·rw[if_neg e]
    by_cases e2:k<i
    ·rw[if_pos e2,if_pos (by omega)];omega
    ·rw[if_neg e2,if_neg (by omega)];omega
theorem eR_app {L M:List Int} {i:Nat} (h:i≤L.length):eR (L++M) i=eR L i:=eR_congr i fun k hk=>by
 rw[List.getD,List.getD,List.getElem?_append_left (by omega)]
theorem sg (i:Nat):(i%2=0∧(1-2* ((i:Int)%2))=1)∨(i%2=1∧(1-2* ((i:Int)%2))= -1):=by omega
theorem eR_even {L:List Int} {i:Nat} (h:i%2=0):eR L (i+1)=eR L i+L.getD i 0:=by
 rw[eR_step,show(1-2* ((i:Int)%2))=1 by omega,Int.mul_one]
theorem eR_odd {L:List Int} {i:Nat} (h:i%2=1):eR L (i+1)=eR L i-L.getD i 0:=by
 rw[eR_step,show(1-2* ((i:Int)%2))= -1 by omega];omega
theorem eR_bd {L:List Int} (h:∀x∈L,1≤x∧x≤64):∀i:Nat,i≤L.length→ -(64* (i:Int))≤eR L i∧eR L i≤64*i
 | 0,_=>by simp[eR]
 | i+1,hi=>by
   have ih:=eR_bd h i (by omega)
   have hx:=h _ (getD_mem (L:=L) (i:=i) (by omega))
   rcases sg i with⟨e,_⟩ | ⟨e,_⟩
   ·rw[eR_even e];omega
   ·rw[eR_odd e];omega
theorem eR_bd8 {L:List Int} (h:∀x∈L,1≤x∧x≤8):∀i:Nat,i≤L.length→ -(8* ((i / 2:Nat):Int))≤eR L i∧eR L i≤8* (((i+1) / 2:Nat):Int)
 | 0,_=>by simp[eR]
 | i+1,hi=>by
   have ih:=eR_bd8 h i (by omega)
   have hx:=h _ (getD_mem (L:=L) (i:=i) (by omega))
   rcases sg i with⟨e,_⟩ | ⟨e,_⟩
   ·rw[eR_even e];omega
   ·rw[eR_odd e];omega
structure RValid (s:List Int×List Int):Prop where
 le:s.1.length≤32
 two:2≤s.1.length
 even:s.1.length%2=0
 kl:s.2.length=s.1.length
 lens:∀x∈s.1,1≤x∧x≤64
 kinds:∀x∈s.2,1≤x∧x≤3
 closed:eR s.1 s.1.length=0
theorem RValid.ends {s:List Int×List Int} (h:RValid s):REnds (endR s.1) s.1.length where
 len:=endR_len _
 two:=h.two
 even:=h.even
 closed:=by rw[endR_getD (Nat.le_refl _),endR_getD (Nat.zero_le _),h.closed];rfl
 up i hi e:=by
  have hx:=h.lens _ (getD_mem (L:=s.1) (i:=i) hi)
  rw[endR_getD (by omega),endR_getD (by omega),eR_even e];omega
 down i hi e:=by
  have hx:=h.lens _ (getD_mem (L:=s.1) (i:=i) hi)
  rw[endR_getD (by omega),endR_getD (by omega),eR_odd e];omega
theorem rings_Check_ok {s:List Int×List Int} (h:RValid s):rings_Check fuel s=some 0:=by
 obtain⟨h1,h2,h3,h4,h5,h6,h7⟩:=h
 apply Ret.eq
 unfold rings_Check
 refine Ret_dec (fun g=>absurd g (by omega)) fun _=>Ret_dec (fun g=>absurd g (by omega)) fun _=>Ret_dec (fun g=>absurd g (by omega)) fun _=>?_
 refine Ret_chk (by rw[Bool.and_eq_true];exact⟨decide_eq_true (by omega),rfl⟩) (Ret_dec (fun g=>absurd g (by omega)) fun _=>?_)
 refine Ret_loop (Inv:=fun x:Int×Int=>0≤x.2∧x.2≤s.1.length∧x.1=eR s.1 x.2.toNat) (m:=fun x=>((s.1.length:Int)-x.2).toNat) ?_ _ _ ⟨by simp,by simp,rfl⟩ (by simp only[fuel];omega)
 rintro ⟨at_,i⟩ rec ⟨i1,i2,i3⟩ ih
 simp only at i1 i2 i3 ⊢
 obtain⟨n,rfl⟩:=Int.eq_ofNat_of_zero_le i1
 simp only[Int.toNat_natCast] at i3 ⊢
 refine Ret_dec (fun hlt=>?_) fun hge=>?_
 ·have hx:=h5 _ (getD_mem (L:=s.1) (i:=n) (by omega))
  have hk:=h6 _ (getD_mem (L:=s.2) (i:=n) (by omega))
  have hb:=eR_bd (L:=s.1) h5 n (by omega)
  have hin:inb (n:Int) s.1.length=true:=inb_t (by omega) (by omega)
  have hin2:inb (n:Int) s.2.length=true:=inb_t (by omega) (by omega)
  refine Ret_chk hin (Ret_dec (fun g=>absurd g (by omega)) fun _=>Ret_dec (fun g=>absurd g (by omega)) fun _=>Ret_chk hin2 (Ret_dec (fun g=>absurd g (by omega)) fun _=>Ret_chk hin2 (Ret_dec (fun g=>absurd g (by omega)) fun _=>?_)))
  refine Ret_chk (by rw[Bool.and_eq_true];exact⟨decide_eq_true (by omega),rfl⟩) (Ret_chk (i64b_t (by omega) (by omega)) (Ret_chk (i64b_t (by omega) (by omega)) ?_))
  have hs:at_+s.1.getD n 0* (1-2* ((n:Int)%2))=eR s.1 (n+1):=by rw[i3,eR_step]
  have hb2:=eR_bd (L:=s.1) h5 (n+1) (by omega)
  refine Ret_chk (i64b_t (by omega) (by omega)) (Ret_chk (i64b_t (by omega) (by omega)) (Ret_chk (i64b_t (by omega) (by omega)) ?_))
  exact ih _ ⟨by simp only;omega,by simp only;omega,by simp only;rw[hs,show((n:Int)+1).toNat=n+1 by omega]⟩ (by simp only;omega)
 ·have:n=s.1.length:=by omega
  subst this
  refine Ret_dec (fun g=>absurd (i3.trans h7) g) fun _=>Ret_some rfl
theorem rings_of_ok {s:List Int×List Int} (h:RValid s):rings_of fuel s=some (s,endR s.1):=by
 obtain⟨h1,h2,h3,h4,h5,h6,h7⟩:=h
 apply Ret.eq
 unfold rings_of
 refine Ret_loop (Inv:=fun x:Int×(List Int×(List Int×List Int))=>0≤x.1∧x.1≤s.1.length∧x.2.1=s.1∧x.2.2.1=s.2∧x.2.2.2=(List.range (x.1.toNat+1)).map (eR s.1)) (m:=fun x=>((s.1.length:Int)-x.1).toNat) ?_ _ _ ⟨by simp,by simp,rfl,rfl,rfl⟩ (by simp only[fuel];omega)
 rintro ⟨i,L,K,out⟩ rec ⟨i1,i2,rfl,rfl,i3⟩ ih
 simp only at i1 i2 i3 ⊢
 obtain⟨n,rfl⟩:=Int.eq_ofNat_of_zero_le i1
 simp only[Int.toNat_natCast] at i3 ⊢
 refine Ret_dec (fun hlt=>?_) fun hge=>?_
 ·have hx:=h5 _ (getD_mem (L:=s.1) (i:=n) (by omega))
  have hb:=eR_bd (L:=s.1) h5 n (by omega)
  have hb2:=eR_bd (L:=s.1) h5 (n+1) (by omega)
  have hlen:out.length=n+1:=by rw[i3];simp
  have hg:out.getD n 0=eR s.1 n:=by rw[i3,List.getD,List.getElem?_map,List.getElem?_range (by omega)];rfl
  have hs:out.getD n 0+s.1.getD n 0* (1-2* ((n:Int)%2))=eR s.1 (n+1):=by rw[hg,eR_step]
  refine Ret_chk (inb_t (by omega) (by omega)) (Ret_chk (inb_t (by omega) (by omega)) (Ret_chk (by rw[Bool.and_eq_true];exact⟨decide_eq_true (by omega),rfl⟩) ?_))
  refine Ret_chk (i64b_t (by omega) (by omega)) (Ret_chk (i64b_t (by omega) (by omega)) (Ret_chk (i64b_t (by omega) (by omega)) (Ret_chk (i64b_t (by omega) (by omega)) (Ret_chk (lenOk_t (by omega)) (Ret_chk (i64b_t (by omega) (by omega)) ?_)))))
  refine ih _ ⟨by simp only;omega,by simp only;omega,rfl,rfl,?_⟩ (by simp only;omega)
  simp only
  rw[hs,i3,show((n:Int)+1).toNat=n+1 by omega,List.range_succ (n:=n+1),List.map_append]
  rfl
 ·exact Ret_some (by rw[i3,show n=s.1.length by omega];rfl)
end X
end Go.Vm
namespace Go.Vm
namespace X
open W
def OfQ (k:Nat) (s:List Int×List Int):Prop:=1≤s.1.length∧s.1.length≤max 1 k∧s.1.length=s.2.length+1∧(∀x∈s.1,1≤x∧x≤8)∧∀x∈s.2,1≤x∧x≤3
theorem law16_T_Of_ok {a:List Int×List Int} (h1:bytes a.1) (h2:bytes a.2):Ret (law16_T_Of fuel a) (OfQ a.1.length):=by
 unfold law16_T_Of
 have fin:∀x:Int×(List Int×List Int),(0≤x.1∧x.1≤12∧x.1≤a.1.length∧x.2.1.length=x.1.toNat∧x.2.2.length=x.1.toNat-1∧(∀y∈x.2.1,1≤y∧y≤8)∧∀y∈x.2.2,1≤y∧y≤3)→
   Ret (bif(decide (((x.2.1.length:Nat):Int)=0)) then(some ([1],x.2.2)) else(some (x.2.1,x.2.2))) (OfQ a.1.length):=by
  intro x ⟨i1,i2,i0,i3,i4,i5,i6⟩
  refine Ret_dec (fun h=>Ret_some ⟨by simp,by simp;omega,?_,by simp,i6⟩) fun h=>Ret_some ⟨?_,?_,?_,i5,i6⟩
  ·simp only[List.length_singleton];omega
  all_goals (simp only;omega)
 refine Ret_loop (Inv:=fun x:Int×(List Int×List Int)=>0≤x.1∧x.1≤12∧x.1≤a.1.length∧x.2.1.length=x.1.toNat∧x.2.2.length=x.1.toNat-1∧(∀y∈x.2.1,1≤y∧y≤8)∧∀y∈x.2.2,1≤y∧y≤3) (m:=fun x=>(12-x.1).toNat) ?_ _ _ ⟨by simp,by simp,by simp,by simp,by simp,by simp,by simp⟩ (by simp[fuel])
 intro x rec hi ih
 have hI:=hi
 obtain⟨i1,i2,i0,i3,i4,i5,i6⟩:=hi
 refine Ret_dec (fun hlt=>?_) fun _=>fin x hI
 refine Ret_dec (fun h12=>?_) fun _=>fin x hI
 have hb:=h1 _ (getD_mem (i:=x.1.toNat) (by omega))
 refine Ret_chk (inb_t i1 hlt) ?_
 refine Ret_chk (by rw[Bool.and_eq_true];exact⟨decide_eq_true (by omega),rfl⟩) ?_
 refine Ret_chk (i64b_t (by omega) (by omega)) ?_
 refine Ret_chk (i64b_t (by omega) (by omega)) ?_
 refine Ret_chk (lenOk_t (by omega)) ?_
 have e5:=mem_snoc i5 (a:=1+ (a.1.getD x.1.toNat 0)%8) (P:=fun y=>1≤y∧y≤8) (by omega)
 refine Ret_dec (fun hpos=>?_) fun hz=>?_
 ·refine Ret_dec (fun hk=>?_) fun hk=>?_
  ·refine Ret_chk (i64b_t (by omega) (by omega)) ?_
   refine Ret_chk (inb_t (by omega) (by omega)) ?_
   have hb2:=h2 _ (getD_mem (L:=a.2) (i:=(x.1-1).toNat) (by omega))
   refine Ret_chk (by rw[Bool.and_eq_true];exact⟨decide_eq_true (by omega),rfl⟩) ?_
   refine Ret_chk (lenOk_t (by omega)) ?_
   refine Ret_chk (i64b_t (by omega) (by omega)) ?_
   refine ih _ ⟨by simp only;omega,by simp only;omega,by simp only;omega,by simp only[List.length_append,List.length_singleton];omega,by simp only[List.length_append,List.length_singleton];omega,e5,mem_snoc i6 ?_⟩ (by simp only;omega)
   rw[wrap_u8 (by omega) (by omega)];omega
  ·refine Ret_chk (lenOk_t (by omega)) ?_
   refine Ret_chk (i64b_t (by omega) (by omega)) ?_
   exact ih _ ⟨by simp only;omega,by simp only;omega,by simp only;omega,by simp only[List.length_append,List.length_singleton];omega,by simp only[List.length_append,List.length_singleton];omega,e5,mem_snoc i6 (by omega)⟩ (by simp only;omega)
 ·refine Ret_chk (i64b_t (by omega) (by omega)) ?_
  exact ih _ ⟨by simp only;omega,by simp only;omega,by simp only;omega,by simp only[List.length_append,List.length_singleton];omega,by simp only;omega,e5,i6⟩ (by simp only;omega)
theorem mem_set {L:List Int} {k:Nat} {v:Int} {P:Int→Prop} (h:∀x∈L,P x) (hv:P v):∀x∈L.set k v,P x:=fun x hx=>by
 rcases List.mem_or_eq_of_mem_set hx with h1 | h1
 ·exact h x h1
 ·rw[h1];exact hv
theorem law22_N_Of_ok {a:(List Int×List Int)×(Int×Unit)} (h1:bytes a.1.1) (h2:bytes a.1.2) (h3:0≤a.2.1∧a.2.1≤255):Ret (law22_N_Of fuel a) fun s=>RValid s∧s.1.length≤8∧s.1.length≤max 1 a.1.1.length+1:=by
 unfold law22_N_Of
 have hmin:(0:Int)≤min ((a.1.1.length:Nat):Int) 7∧min ((a.1.1.length:Nat):Int) 7≤((a.1.1.length:Nat):Int):=by omega
 refine Ret_chk (by simp[bnb];omega) ?_
 generalize hP:((a.1.1.drop 0).take ((min ((a.1.1.length:Nat):Int) 7):Int).toNat)=P
 have hPl:P.length≤7∧P.length≤a.1.1.length:=by rw[←hP];simp;omega
 have hPb:bytes P:=fun x hx=>h1 x (by rw[←hP] at hx;exact List.mem_of_mem_drop (List.mem_of_mem_take hx))
 refine Ret_bind (law16_T_Of_ok (a:=(P,a.1.2)) hPb h2) fun s hs=>?_
 obtain⟨t1,t2,t3,t4,t5⟩:=hs
 have t2:s.1.length≤max 1 P.length:=t2
 have tl:s.1.length≤7:=by omega
 refine Ret_loop (Inv:=fun x:Int×(Int×(List Int×List Int))=>0≤x.2.1∧x.2.1≤s.1.length∧x.1=eR s.1 x.2.1.toNat∧x.2.2.1=s.1.take x.2.1.toNat∧x.2.2.2=s.2.take x.2.1.toNat) (m:=fun x=>((s.1.length:Int)-x.2.1).toNat) ?_ _ _ ⟨by simp,by simp,rfl,rfl,rfl⟩ (by simp only[fuel];omega)
 rintro ⟨sum,i,L,K⟩ rec ⟨i1,i2,i3,i4,i5⟩ ih
 simp only at i1 i2 i3 i4 i5 ⊢
 obtain⟨n,rfl⟩:=Int.eq_ofNat_of_zero_le i1
 simp only[Int.toNat_natCast] at i3 i4 i5 ⊢
 refine Ret_dec (fun hlt=>?_) fun hge=>?_
 ·have hx:=t4 _ (getD_mem (L:=s.1) (i:=n) (by omega))
  have hb:=eR_bd8 (L:=s.1) t4 n (by omega)
  have hLl:L.length=n:=by rw[i4,List.length_take];omega
  have hKl:K.length=min n s.2.length:=by rw[i5,List.length_take]
  have hin:inb (n:Int) s.1.length=true:=inb_t (by omega) (by omega)
  have e4:L++[s.1.getD n 0]=s.1.take (n+1):=by rw[take_snoc (by omega),i4]
  have nxt:∀v:Int,v=eR s.1 (n+1)→∀K',K'=s.2.take (n+1)→Ret (chk (i64b ((n:Int)+1)) (rec (v,((n:Int)+1,(L++[s.1.getD n 0],K'))))) fun s=>RValid s∧s.1.length≤8∧s.1.length≤max 1 a.1.1.length+1:=fun v hv K' hK=>
   Ret_chk (i64b_t (by omega) (by omega)) (ih _ ⟨by simp only;omega,by simp only;omega,by simp only;rw[hv,show((n:Int)+1).toNat=n+1 by omega],by simp only;rw[e4,show((n:Int)+1).toNat=n+1 by omega],by simp only;rw[hK,show((n:Int)+1).toNat=n+1 by omega]⟩ (by simp only;omega))
  have kin:∀v:Int,v=eR s.1 (n+1)→Ret (bif(decide ((n:Int)< ((s.2.length:Nat):Int))) then(chk (inb (n:Int) s.2.length) (chk (lenOk (K.length+1)) (chk (i64b ((n:Int)+1)) (rec (v,((n:Int)+1,(L++[s.1.getD n 0],K++[s.2.getD n 0]))))))) else(chk (i64b ((n:Int)+1)) (rec (v,((n:Int)+1,(L++[s.1.getD n 0],K)))))) fun s=>RValid s∧s.1.length≤8∧s.1.length≤max 1 a.1.1.length+1:=fun v hv=>by
   refine Ret_dec (fun hk=>?_) fun hk=>?_
   ·exact Ret_chk (inb_t (by omega) (by omega)) (Ret_chk (lenOk_t (by omega)) (nxt v hv _ (by rw[take_snoc (by omega),i5])))
   ·exact nxt v hv _ (by rw[i5,List.take_of_length_le (by omega),List.take_of_length_le (by omega)])
  refine Ret_chk hin (Ret_chk (lenOk_t (by omega)) (Ret_chk (by rw[Bool.and_eq_true];exact⟨decide_eq_true (by omega),rfl⟩) ?_))
  refine Ret_dec (fun he=>?_) fun ho=>?_
  ·refine Ret_chk hin (Ret_chk (i64b_t (by omega) (by omega)) ?_)
   exact kin _ (by rw[i3,eR_even (by omega)])
  ·refine Ret_chk hin (Ret_chk (i64b_t (by omega) (by omega)) ?_)
   exact kin _ (by rw[i3,eR_odd (by omega)])
 ·have hn:n=s.1.length:=by omega
  have hL:L=s.1:=by rw[i4,hn,List.take_of_length_le (Nat.le_refl _)]
  have hK:K=s.2:=by rw[i5,hn,List.take_of_length_le (by omega)]
  subst hL;subst hK
  have hb:=eR_bd8 (L:=s.1) t4 n (by omega)
  have h0:=t4 _ (getD_mem (L:=s.1) (i:=0) (by omega))
  have w1:IntKind.u8.wrap (1+ (a.2.1%3))=1+a.2.1%3:=wrap_u8 (by omega) (by omega)
  have w2:IntKind.u8.wrap (1+ ((a.2.1 / 3)%3))=1+ (a.2.1 / 3)%3:=wrap_u8 (by omega) (by omega)
  rw[←hn] at t1 t2 t3 tl ⊢
  have t4':∀x∈s.1,1≤x∧x≤64:=fun x hx=>by have:=t4 x hx;omega
  refine Ret_chk (by rw[Bool.and_eq_true];exact⟨decide_eq_true (by omega),rfl⟩) (Ret_dec (fun he=>?_) fun ho=>?_)
  ·have hz:=t4 _ (getD_mem (L:=s.1) (i:=n-1) (by omega))
   have e1:(((n:Nat):Int)-1).toNat=n-1:=by omega
   refine Ret_dec (fun hp=>?_) fun hp=>?_
   ·rw[e1]
    refine Ret_chk (i64b_t (by omega) (by omega)) (Ret_chk (i64b_t (by omega) (by omega)) (Ret_chk (inb_t (by omega) (by omega)) (Ret_chk (i64b_t (by omega) (by omega)) (Ret_chk (inb_t (by omega) (by omega)) (Ret_chk (by rw[Bool.and_eq_true];exact⟨decide_eq_true (by omega),rfl⟩) (Ret_chk (lenOk_t (by omega)) (Ret_some ?_)))))))
    rw[w1]
    refine⟨⟨?_,?_,?_,?_,mem_set t4' ?_,mem_snoc t5 (by omega),?_⟩,?_,?_⟩<;>(try simp only[List.length_set,List.length_append,List.length_singleton])<;>try omega
    rw[←hn,eR_set (by omega),if_pos (by omega),show(1-2* (((n-1:Nat):Int)%2))= -1 by omega,←i3]
    omega
   ·refine Ret_chk (inb_t (by omega) (by omega)) (Ret_chk (i64b_t (by omega) (by omega)) (Ret_chk (inb_t (by omega) (by omega)) (Ret_chk (by rw[Bool.and_eq_true];exact⟨decide_eq_true (by omega),rfl⟩) (Ret_chk (lenOk_t (by omega)) (Ret_some ?_)))))
    rw[w1]
    refine⟨⟨?_,?_,?_,?_,mem_set t4' ?_,mem_snoc t5 (by omega),?_⟩,?_,?_⟩<;>(try simp only[List.length_set,List.length_append,List.length_singleton])<;>try omega
    rw[←hn,eR_set (by omega),if_pos (by omega),←i3]
    simp
    omega
  ·have d3:a.2.1 / 3≤255∧0≤a.2.1 / 3:=by omega
   refine Ret_chk (by simp only[Bool.and_eq_true,decide_eq_true_eq];exact⟨⟨by omega,by omega⟩,wrap_u8 (by omega) (by omega)⟩) (Ret_chk (by rw[Bool.and_eq_true];exact⟨decide_eq_true (by omega),rfl⟩) (Ret_chk (lenOk_t (by omega)) ?_))
   rw[w1,w2]
   refine Ret_jn (fun x:Int×(List Int×Option Nat)=>x.2.1.length=n∧(∀y∈x.2.1,1≤y∧y≤64)∧1≤x.1∧x.1≤64∧eR x.2.1 n=x.1) (fun x ⟨k1,k2,k3,k4,k5⟩=>?_) fun j hj=>?_
   ·refine Ret_chk (lenOk_t (by omega)) (Ret_chk (by rw[Bool.and_eq_true];exact⟨decide_eq_true (by omega),rfl⟩) (Ret_chk (lenOk_t (by simp;omega)) (Ret_some ?_)))
    refine⟨⟨?_,?_,?_,?_,mem_snoc k2 ⟨k3,k4⟩,mem_snoc (mem_snoc t5 (by omega)) (by omega),?_⟩,?_,?_⟩<;>(try simp only[List.length_append,List.length_singleton])<;>try omega
    rw[k1,eR_odd (by omega),eR_app (by omega),k5]
    rw[List.getD,List.getElem?_append_right (by omega),k1]
    simp
   ·refine Ret_dec (fun hp=>?_) fun hp=>?_
    ·refine Ret_chk (inb_t (by omega) (by omega)) (Ret_chk (i64b_t (by omega) (by omega)) (Ret_chk (i64b_t (by omega) (by omega)) (Ret_chk (inb_t (by omega) (by omega)) (hj _ ⟨by simp only[List.length_set];omega,mem_set t4' (by omega),by simp,by simp,?_⟩))))
     simp only
     rw[eR_set (by omega),if_pos (by omega),←i3]
     simp
     omega
    ·exact hj _ ⟨hn.symm,t4',by simp only;omega,by simp only;omega,i3.symm⟩
end X
end Go.Vm
