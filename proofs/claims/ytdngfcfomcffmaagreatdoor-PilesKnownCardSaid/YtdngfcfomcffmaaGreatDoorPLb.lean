/-
  Piles: plain laws: ends, places, orders.
  Piles: the plain law PilesProfile.
  Piles: the plain law PilesProfile: Profile; the law.
  Piles: the law PilesProfile.
-/
import Derived.Test.YtdngfcfomcffmaaGreatDoorPLa
import Derived.KernelRfl
set_option linter.unusedSimpArgs false
set_option linter.unusedVariables false
namespace Go.Vm
namespace X
open W Go.Proofs.St
theorem lives17:law17_lives fuel ()=some true:=by kernel_rfl
theorem take_snoc {L:List Int} {i:Nat} (h:i<L.length):L.take (i+1)=L.take i++[L.getD i 0]:=by
 rw[List.take_add_one,List.getD,List.getElem?_eq_getElem h];rfl
theorem chk_t {β:Type} {c:Bool} {x:Option β} (h:c=true):chk c x=x:=by rw[h];rfl
theorem law17_ends_ok {s:List Int×List Int} (h:Valid s):law17_ends fuel s=some (endsL s.1):=by
 obtain⟨h1,h2,h3,h4⟩:=h
 apply Ret.eq
 unfold law17_ends
 refine Ret_loop (Inv:=fun x:List Int×Int=>0≤x.2∧x.2≤s.1.length∧x.1=(List.range (x.2.toNat+1)).map (eAt s.1)) (m:=fun x=>((s.1.length:Int)-x.2).toNat) ?_ _ _ ⟨by simp,by simp,rfl⟩ (by simp only[fuel];omega)
 rintro ⟨out,i⟩ rec ⟨i1,i2,i3⟩ ih
 simp only at i1 i2 i3 ⊢
 obtain⟨n,rfl⟩:=Int.eq_ofNat_of_zero_le i1
 simp only[Int.toNat_natCast] at i3 ⊢
 refine Ret_dec (fun hlt=>?_) fun hge=>?_
 ·have hx:=h3 _ (getD_mem (L:=s.1) (i:=n) (by omega))
  have hb:=eAt_bd (L:=s.1) h3 n (by omega)
  have hlen:out.length=n+1:=by rw[i3];simp
  have hg:out.getD n 0=eAt s.1 n:=by rw[i3,List.getD,List.getElem?_map,List.getElem?_range (by omega)];rfl
  have step:eAt s.1 (n+1)=eAt s.1 n+s.1.getD n 0* (1-2* ((n:Int)%2)):=rfl
  have nxt:∀v:Int,v=eAt s.1 (n+1)→Ret (rec (out++[v],(n:Int)+1)) fun x=>x=endsL s.1:=fun v hv=>by
   refine ih _ ⟨by simp only;omega,by simp only;omega,?_⟩ (by simp only;omega)
   simp only
   rw[hv,i3,show((n:Int)+1).toNat=n+1 by omega,←ends_snoc]
  refine Ret_chk (inb_t (by omega) (by omega)) (Ret_chk (by rw[Bool.and_eq_true];exact⟨decide_eq_true (by omega),rfl⟩) ?_)
  refine Ret_dec (fun ho=>?_) fun he=>?_
  ·refine Ret_chk (i64b_t (by omega) (by omega)) (Ret_chk (inb_t (by omega) (by omega)) ?_)
   rw[hg]
   refine Ret_chk (i64b_t (by omega) (by omega)) (Ret_chk (lenOk_t (by omega)) (Ret_chk (i64b_t (by omega) (by omega)) (nxt _ ?_)))
   rw[step,ho];omega
  ·refine Ret_chk (inb_t (by omega) (by omega)) ?_
   rw[hg]
   refine Ret_chk (i64b_t (by omega) (by omega)) (Ret_chk (lenOk_t (by omega)) (Ret_chk (i64b_t (by omega) (by omega)) (nxt _ ?_)))
   rw[step,show(n:Int)%2=0 by omega];omega
 ·exact Ret_some (by rw[i3,show n=s.1.length by omega];rfl)
def frm (E:List Int) (i:Nat):Int:=min (E.getD i 0) (E.getD (i+1) 0)
def too (E:List Int) (i:Nat):Int:=max (E.getD i 0) (E.getD (i+1) 0)
theorem from_ok {L K E:List Int} {i:Int} (h0:0≤i) (h1:i+1<E.length) (h2:E.length≤10000):piles_folded_from fuel (((L,K),E),i)=some (frm E i.toNat):=by
 unfold piles_folded_from
 rw[chk_t (inb_t h0 (by simp only;omega)),chk_t (i64b_t (by simp only;omega) (by simp only;omega)),chk_t (inb_t (by simp only;omega) (by simp only;omega))]
 simp only[frm,show(i+1).toNat=i.toNat+1 by omega]
theorem to_ok {L K E:List Int} {i:Int} (h0:0≤i) (h1:i+1<E.length) (h2:E.length≤10000):piles_folded_to fuel (((L,K),E),i)=some (too E i.toNat):=by
 unfold piles_folded_to
 rw[chk_t (inb_t h0 (by simp only;omega)),chk_t (i64b_t (by simp only;omega) (by simp only;omega)),chk_t (inb_t (by simp only;omega) (by simp only;omega))]
 simp only[too,show(i+1).toNat=i.toNat+1 by omega]
def ovl (E:List Int) (i k:Nat):Bool:=decide (frm E i<too E k)&&decide (frm E k<too E i)
theorem overlap_ok {L K E:List Int} {i k:Int} (h0:0≤i) (h1:i+1<E.length) (g0:0≤k) (g1:k+1<E.length) (h2:E.length≤10000):piles_folded_overlap fuel (((L,K),E),(i,k))=some (ovl E i.toNat k.toNat):=by
 unfold piles_folded_overlap
 simp only
 rw[from_ok h0 h1 h2,to_ok g0 g1 h2,from_ok g0 g1 h2,to_ok h0 h1 h2]
 simp only[Option.bind_some,ovl]
 by_cases h:frm E i.toNat<too E k.toNat
 ·rw[decide_eq_true h,cond_true,Bool.true_and]
 ·rw[decide_eq_false h,cond_false,Bool.false_and]
theorem of_ok {s:List Int×List Int} (h:Valid s):piles_of fuel s=some ((s,endsL s.1),0):=by
 unfold piles_of
 rw[show(s.1,s.2)=s from rfl,strips_Ends_valid h]
 simp only[Option.bind_some]
 rw[chk_t (by simp[capIs])]
theorem of_err {s:List Int×List Int} (h:s.2.length≤1000) (he:ckS s≠0):piles_of fuel s=some ((s,[]),ckS s):=by
 unfold piles_of
 rw[show(s.1,s.2)=s from rfl,ends_err h he]
 simp only[Option.bind_some]
 rw[chk_t (by simp[capIs])]
theorem Overlap_ok {s:List Int×List Int} (h:Valid s) (a b:Int):piles_Overlap fuel (s,(a,b))=some (decide (0≤a)&&decide (0≤b)&&decide (a<s.1.length)&&decide (b<s.1.length)&&ovl (endsL s.1) a.toNat b.toNat):=by
 unfold piles_Overlap
 rw[show(s.1,s.2)=s from rfl,of_ok h]
 simp only[Option.bind_some,ne_eq,not_true_eq_false,decide_false,cond_false]
 have hl:=endsL_len s.1
 have h1:=h.1
 by_cases g1:a<0
 ·rw[decide_eq_true g1,cond_true,decide_eq_false (show ¬0≤a by omega)];rfl
 rw[decide_eq_false g1,cond_false,decide_eq_true (show 0≤a by omega)]
 by_cases g2:b<0
 ·rw[decide_eq_true g2,cond_true,decide_eq_false (show ¬0≤b by omega)];rfl
 rw[decide_eq_false g2,cond_false,decide_eq_true (show 0≤b by omega)]
 by_cases g3:(s.1.length:Int)≤a
 ·rw[decide_eq_true g3,cond_true,decide_eq_false (show ¬a<s.1.length by omega)];rfl
 rw[decide_eq_false g3,cond_false,decide_eq_true (show a<s.1.length by omega)]
 by_cases g4:(s.1.length:Int)≤b
 ·rw[decide_eq_true g4,cond_true,decide_eq_false (show ¬b<s.1.length by omega)];rfl
 rw[decide_eq_false g4,cond_false,decide_eq_true (show b<s.1.length by omega)]
 rw[overlap_ok (by omega) (by omega) (by omega) (by omega) (by omega)]
 rfl
def isOver (E:List Int) (at_ n:Int):Bool:=decide (frm E n.toNat≤at_)&&decide (at_<too E n.toNat)
def overL (E p:List Int) (at_:Int):List Int:=p.filter (isOver E at_)
def In (n:Nat) (p:List Int):Prop:=∀x∈p,0≤x∧x<n
theorem filter_snoc {f:Int→Bool} {p:List Int} {i:Nat} (h:i<p.length):(p.take (i+1)).filter f=(p.take i).filter f++(bif f (p.getD i 0) then [p.getD i 0] else []):=by
 rw[take_snoc h,List.filter_append,List.filter_cons,List.filter_nil]
 cases f (p.getD i 0)<;>simp
theorem over_ok {s:List Int×List Int} (h:Valid s) {p:List Int} (hp:In s.1.length p) (hl:p.length≤10000) (at_:Int):law17_over fuel (s,(p,at_))=some (overL (endsL s.1) p at_):=by
 apply Ret.eq
 unfold law17_over
 refine Ret_bind (Ret.of (law17_ends_ok (s:=(s.1,s.2)) h)) fun r e=>?_
 subst e
 have hel:=endsL_len s.1
 have hn:=h.1
 refine Ret_loop (Inv:=fun x:List Int×Int=>0≤x.2∧x.2≤p.length∧x.1=(p.take x.2.toNat).filter (isOver (endsL s.1) at_)) (m:=fun x=>((p.length:Int)-x.2).toNat) ?_ _ _ ⟨by simp,by simp,by simp⟩ (by simp only[fuel];omega)
 rintro ⟨out,i⟩ rec ⟨i1,i2,i3⟩ ih
 simp only at i1 i2 i3 ⊢
 refine Ret_dec (fun hlt=>?_) fun hge=>?_
 ·have hx:=hp _ (getD_mem (L:=p) (i:=i.toNat) (by omega))
  have hfil:out.length≤i.toNat:=by rw[i3];exact Nat.le_trans (List.length_filter_le ..) (by simp;omega)
  have es:=filter_snoc (f:=isOver (endsL s.1) at_) (p:=p) (i:=i.toNat) (by omega)
  have hin:=inb_t (i:=i) (n:=p.length) (by omega) (by omega)
  generalize p.getD i.toNat 0=q at hx es ⊢
  have e1:(q+1).toNat=q.toNat+1:=by omega
  have nxt:∀o:List Int,o=(p.take (i.toNat+1)).filter (isOver (endsL s.1) at_)→Ret (chk (i64b (i+1)) (rec (o,i+1))) fun x=>x=overL (endsL s.1) p at_:=fun o ho=>
   Ret_chk (i64b_t (by omega) (by omega)) (ih _ ⟨by simp only;omega,by simp only;omega,by simp only;rw[ho,show(i+1).toNat=i.toNat+1 by omega]⟩ (by simp only;omega))
  refine Ret_chk hin (Ret_chk (inb_t (by omega) (by omega)) (Ret_chk (i64b_t (by omega) (by omega)) (Ret_chk (inb_t (by omega) (by omega)) ?_)))
  rw[e1]
  have ef:isOver (endsL s.1) at_ q=(decide (min ((endsL s.1).getD q.toNat 0) ((endsL s.1).getD (q.toNat+1) 0)≤at_)&&decide (at_<max ((endsL s.1).getD q.toNat 0) ((endsL s.1).getD (q.toNat+1) 0))):=rfl
  refine Ret_dec (fun h1=>?_) fun h1=>?_
  ·refine Ret_chk (inb_t (by omega) (by omega)) (Ret_chk (i64b_t (by omega) (by omega)) (Ret_chk (inb_t (by omega) (by omega)) ?_))
   refine Ret_dec (fun h2=>?_) fun h2=>?_
   ·refine Ret_chk (lenOk_t (by omega)) (nxt _ ?_)
    rw[es,ef,decide_eq_true h1,decide_eq_true h2,i3];rfl
   ·refine nxt _ ?_
    rw[es,ef,decide_eq_false h2,i3,Bool.and_false,cond_false,List.append_nil]
  ·refine nxt _ ?_
   rw[es,ef,decide_eq_false h1,i3,Bool.false_and,cond_false,List.append_nil]
 ·exact Ret_some (by rw[i3,List.take_of_length_le (by omega)];rfl)
def idL (n:Nat):List Int:=(List.range n).map Int.ofNat
theorem idL_len (n:Nat):(idL n).length=n:=by simp[idL]
theorem idL_snoc (n:Nat):idL (n+1)=idL n++[(n:Int)]:=by simp[idL,List.range_succ]
theorem mem_idL {n:Nat} {x:Int}:x∈idL n↔0≤x∧x<n:=by
 simp only[idL,List.mem_map,List.mem_range]
 constructor
 ·rintro ⟨a,h,rfl⟩;exact⟨by simp,by simp;omega⟩
 ·intro h;exact⟨x.toNat,by omega,by simp;omega⟩
theorem idL_nodup (n:Nat):(idL n).Nodup:=by
 unfold idL
 exact List.nodup_range.map (f:=Int.ofNat) (fun a b h h2=>h (Int.ofNat.inj h2))
def Ord (n:Nat) (p:List Int):Prop:=p.Perm (idL n)
theorem Ord.len {n:Nat} {p:List Int} (h:Ord n p):p.length=n:=by rw[h.length_eq,idL_len]
theorem Ord.in {n:Nat} {p:List Int} (h:Ord n p):In n p:=fun x hx=>mem_idL.1 (h.mem_iff.1 hx)
theorem Ord.nodup {n:Nat} {p:List Int} (h:Ord n p):p.Nodup:=h.nodup_iff.2 (idL_nodup n)
theorem Ord.mem {n:Nat} {p:List Int} (h:Ord n p) {i:Nat} (hi:i<n):(i:Int)∈p:=h.mem_iff.2 (mem_idL.2 ⟨by omega,by omega⟩)
theorem left_loop {n:Nat} (hn:n≤1000) {K:List Int→Option (List Int)} {Q:List Int→Prop} (hK:Ret (K (idL n)) Q):
  Ret (loopF (fun rec1 (x1:((List Int)×Int))=>bif(decide (x1.2< (n:Int))) then(chk (lenOk (x1.1.length+1)) (chk (i64b (x1.2+1)) (rec1 ((x1.1++[x1.2]),(x1.2+1))))) else K x1.1) fuel ([],0)) Q:=by
 refine Ret_loop (Inv:=fun x:List Int×Int=>0≤x.2∧x.2≤n∧x.1=idL x.2.toNat) (m:=fun x=>((n:Int)-x.2).toNat) ?_ _ _ ⟨by simp,by simp,rfl⟩ (by simp only[fuel];omega)
 rintro ⟨out,i⟩ rec ⟨i1,i2,i3⟩ ih
 simp only at i1 i2 i3 ⊢
 obtain⟨k,rfl⟩:=Int.eq_ofNat_of_zero_le i1
 simp only[Int.toNat_natCast] at i3
 subst i3
 refine Ret_dec (fun hlt=>?_) fun hge=>?_
 ·refine Ret_chk (lenOk_t (by rw[idL_len];omega)) (Ret_chk (i64b_t (by omega) (by omega)) (ih _ ⟨by simp only;omega,by simp only;omega,?_⟩ (by simp only;omega)))
  simp only
  rw[show((k:Int)+1).toNat=k+1 by omega,idL_snoc]
 ·rw[show k=n by omega];exact hK
theorem take_drop_all {L:List Int} {k:Nat}:(L.drop (k+1)).take (L.length-(k+1))=L.drop (k+1):=List.take_of_length_le (by simp)
theorem O_Of_ok {y:List Int} (hy:bytes y) {n:Nat} (hn:n≤1000):Ret (law17_O_Of fuel (y,(n:Int))) fun p=>Ord n p:=by
 unfold law17_O_Of
 refine left_loop (n:=n) hn (K:=fun l=>loopF _ fuel (l,([],0))) ?_
 refine Ret_loop (Inv:=fun x:List Int×(List Int×Int)=>0≤x.2.2∧x.2.2≤n∧(x.1++x.2.1).Perm (idL n)∧(x.1.length:Int)=n-x.2.2) (m:=fun x=>((n:Int)-x.2.2).toNat) ?_ _ _ ⟨by simp,by simp,by simp,by simp[idL_len]⟩ (by simp only[fuel];omega)
 rintro ⟨left,out,i⟩ rec ⟨i1,i2,i3,i4⟩ ih
 simp only at i1 i2 i3 i4 ⊢
 have hlen:=i3.length_eq
 rw[List.length_append,idL_len] at hlen
 have perm:∀k:Nat,k<left.length→((left.take k++left.drop (k+1))++(out++[left.getD k 0])).Perm (idL n):=fun k hk=>by
  refine List.Perm.trans ?_ i3
  have e:left=left.take k++left.getD k 0::left.drop (k+1):=by
   rw[List.getD,List.getElem?_eq_getElem hk]
   exact(List.take_append_drop k left).symm.trans (by rw[List.drop_eq_getElem_cons hk];rfl)
  conv=>rhs;rw[e]
  simp only[List.append_assoc,List.cons_append]
  refine List.Perm.append_left _ ?_
  refine List.Perm.trans ?_ List.perm_middle
  refine List.Perm.append_left _ ?_
  exact List.perm_append_comm
 refine Ret_dec (fun hlt=>?_) fun hge=>?_
 ·have nxt:∀k:Nat,k<left.length→Ret (rec (left.take k++left.drop (k+1),(out++[left.getD k 0],i+1))) fun p=>Ord n p:=fun k hk=>
   ih _ ⟨by simp only;omega,by simp only;omega,perm k hk,by simp only[List.length_append,List.length_take,List.length_drop];omega⟩ (by simp only;omega)
  refine Ret_dec (fun hiy=>?_) fun hiy=>?_
  ·have hb:=hy _ (getD_mem (L:=y) (i:=i.toNat) (by omega))
   generalize y.getD i.toNat 0=b at hb ⊢
   have hm1:=Int.emod_nonneg b (show((left.length:Nat):Int)≠0 by omega)
   have hm2:=Int.emod_lt_of_pos b (show 0< ((left.length:Nat):Int) by omega)
   generalize b% ((left.length:Nat):Int)=k at hm1 hm2 ⊢
   obtain⟨k,rfl⟩:=Int.eq_ofNat_of_zero_le hm1
   rw[show((k:Int)+1).toNat=k+1 by omega,take_drop_all]
   simp only[Int.toNat_natCast]
   refine Ret_chk (inb_t (by omega) (by omega)) (Ret_chk (i64b_t (by omega) (by omega)) (Ret_chk (by rw[Bool.and_eq_true];exact⟨decide_eq_true (by omega),decide_eq_true (by omega)⟩) (Ret_chk (inb_t (by omega) (by omega)) (Ret_chk (lenOk_t (by omega)) (Ret_chk (by simp[bnb];omega) (Ret_chk (i64b_t (by omega) (by omega)) (Ret_chk (by simp[bnb];omega) (Ret_chk ?_ (Ret_chk (i64b_t (by omega) (by omega)) (nxt k (by omega)))))))))))
   simp[lenOk,ble_dec]
   omega
  ·rw[show(1:Nat)=0+1 from rfl,take_drop_all]
   refine Ret_chk (inb_t (by omega) (by omega)) (Ret_chk (lenOk_t (by omega)) (Ret_chk (by simp[bnb]) (Ret_chk (by simp[bnb];omega) (Ret_chk ?_ (Ret_chk (i64b_t (by omega) (by omega)) (nxt 0 (by omega)))))))
   simp[lenOk,ble_dec]
   omega
 ·have:left=[]:=List.eq_nil_of_length_eq_zero (by omega)
  subst this
  exact Ret_some (by rw[List.nil_append] at i3;exact i3)
end X
end Go.Vm
namespace Go.Vm
namespace X
open W Go.Proofs.St
theorem E_at {s:List Int×List Int} (h:Valid s) {i:Nat} (hi:i≤s.1.length):(endsL s.1).getD i 0=eAt s.1 i:=endsL_getD hi
theorem E_step {s:List Int×List Int} (h:Valid s) {i:Nat} (hi:i<s.1.length):
  1≤s.1.getD i 0∧s.1.getD i 0≤64∧((i%2=0∧(endsL s.1).getD (i+1) 0=(endsL s.1).getD i 0+s.1.getD i 0)∨(i%2=1∧(endsL s.1).getD (i+1) 0=(endsL s.1).getD i 0-s.1.getD i 0)):=by
 have hx:=h.2.2.1 _ (getD_mem hi)
 rw[E_at h (by omega),E_at h (by omega)]
 have step:eAt s.1 (i+1)=eAt s.1 i+s.1.getD i 0* (1-2* ((i:Int)%2)):=rfl
 refine⟨hx.1,hx.2,?_⟩
 rcases(by omega:i%2=0∨i%2=1) with e | e
 ·left;refine⟨e,?_⟩;rw[step,show(i:Int)%2=0 by omega];omega
 ·right;refine⟨e,?_⟩;rw[step,show(i:Int)%2=1 by omega];omega
theorem E_bd {s:List Int×List Int} (h:Valid s) {i:Nat} (hi:i≤s.1.length): -2048≤(endsL s.1).getD i 0∧(endsL s.1).getD i 0≤2048:=by
 rw[E_at h hi]
 have:=eAt_bd (L:=s.1) h.2.2.1 i hi
 have:=h.1
 omega
theorem frm_too {s:List Int×List Int} (h:Valid s) {i:Nat} (hi:i<s.1.length):too (endsL s.1) i=frm (endsL s.1) i+s.1.getD i 0:=by
 obtain⟨h1,_,h2⟩:=E_step h hi
 unfold too frm
 omega
theorem lo_le {E:List Int}:∀ {k i:Nat},i≤k→lo E k≤E.getD i 0
 | 0,i,h=>by
   obtain rfl:i=0:=by omega
   exact Int.le_refl _
 | k+1,i,h=>by
   unfold lo
   by_cases e:i=k+1
   ·subst e;omega
   ·have:=lo_le (E:=E) (k:=k) (i:=i) (by omega);omega
theorem le_hi {E:List Int}:∀ {k i:Nat},i≤k→E.getD i 0≤hi E k
 | 0,i,h=>by
   obtain rfl:i=0:=by omega
   exact Int.le_refl _
 | k+1,i,h=>by
   unfold hi
   by_cases e:i=k+1
   ·subst e;omega
   ·have:=le_hi (E:=E) (k:=k) (i:=i) (by omega);omega
theorem lo_at {E:List Int}:∀ {k:Nat},∃i,i≤k∧lo E k=E.getD i 0
 | 0=>⟨0,by omega,rfl⟩
 | k+1=>by
   obtain⟨i,h1,h2⟩:=lo_at (E:=E) (k:=k)
   unfold lo
   rcases(by omega:min (lo E k) (E.getD (k+1) 0)=lo E k∨min (lo E k) (E.getD (k+1) 0)=E.getD (k+1) 0) with e | e
   ·exact⟨i,by omega,by rw[e,h2]⟩
   ·exact⟨k+1,by omega,e⟩
theorem hi_at {E:List Int}:∀ {k:Nat},∃i,i≤k∧hi E k=E.getD i 0
 | 0=>⟨0,by omega,rfl⟩
 | k+1=>by
   obtain⟨i,h1,h2⟩:=hi_at (E:=E) (k:=k)
   unfold hi
   rcases(by omega:max (hi E k) (E.getD (k+1) 0)=hi E k∨max (hi E k) (E.getD (k+1) 0)=E.getD (k+1) 0) with e | e
   ·exact⟨i,by omega,by rw[e,h2]⟩
   ·exact⟨k+1,by omega,e⟩
theorem frm_lo {s:List Int×List Int} {i:Nat} (hi_:i<s.1.length):lo (endsL s.1) s.1.length≤frm (endsL s.1) i∧too (endsL s.1) i≤hi (endsL s.1) s.1.length:=by
 have h1:=lo_le (E:=endsL s.1) (k:=s.1.length) (i:=i) (by omega)
 have h2:=lo_le (E:=endsL s.1) (k:=s.1.length) (i:=i+1) (by omega)
 have h3:=le_hi (E:=endsL s.1) (k:=s.1.length) (i:=i) (by omega)
 have h4:=le_hi (E:=endsL s.1) (k:=s.1.length) (i:=i+1) (by omega)
 unfold frm too
 omega
def isO (E:List Int) (v:Int) (k:Nat):Bool:=decide (frm E k≤v)&&decide (v<too E k)
def cnt (E:List Int) (v:Int):Nat→Nat
 | 0=>0
 | k+1=>cnt E v k+ (bif isO E v k then 1 else 0)
theorem cnt_le {E:List Int} {v:Int}:∀ {k:Nat},cnt E v k≤k
 | 0=>Nat.le_refl _
 | k+1=>by
   have:=cnt_le (E:=E) (v:=v) (k:=k)
   unfold cnt
   cases isO E v k<;>simp<;>omega
theorem over_len {E:List Int} {v:Int}:∀(k:Nat),(overL E (idL k) v).length=cnt E v k
 | 0=>rfl
 | k+1=>by
   unfold overL
   rw[idL_snoc,List.filter_append,List.length_append,List.filter_cons,List.filter_nil]
   have:=over_len (E:=E) (v:=v) k
   unfold overL at this
   rw[this,cnt]
   have e:isOver E v (k:Int)=isO E v k:=rfl
   rw[e]
   cases isO E v k<;>rfl
def sumC (E:List Int) (l:Int) (k:Nat):Nat→Int
 | 0=>0
 | m+1=>sumC E l k m+ (cnt E (l+m) k:Nat)
theorem sumC_zero {E:List Int} {l:Int}:∀m,sumC E l 0 m=0
 | 0=>rfl
 | m+1=>by rw[sumC,sumC_zero m];rfl
theorem sumC_succ {E:List Int} {l:Int} {k:Nat} (h1:l≤frm E k) (h2:frm E k≤too E k):∀m:Nat,sumC E l (k+1) m=sumC E l k m+ (if l+m≤frm E k then 0 else if l+m≤too E k then l+m-frm E k else too E k-frm E k)
 | 0=>by simp only[sumC];split<;>omega
 | m+1=>by
   rw[sumC,sumC,sumC_succ h1 h2 m,cnt]
   have e:isO E (l+m) k=(decide (frm E k≤l+m)&&decide (l+m<too E k)):=rfl
   have ec:((m+1:Nat):Int)=m+1:=by omega
   rw[e,ec]
   by_cases g1:frm E k≤l+m<;>by_cases g2:l+m<too E k<;>simp only[g1,g2,decide_true,decide_false,Bool.and_self,Bool.and_false,Bool.false_and,cond_true,cond_false]<;>(repeat' split)<;>omega
def sumL (L:List Int):Nat→Int
 | 0=>0
 | k+1=>sumL L k+L.getD k 0
theorem sum_eq {s:List Int×List Int} (h:Valid s):∀k,k≤s.1.length→sumC (endsL s.1) (lo (endsL s.1) s.1.length) k (hi (endsL s.1) s.1.length-lo (endsL s.1) s.1.length).toNat=sumL s.1 k
 | 0,_=>sumC_zero _
 | k+1,hk=>by
   have h1:=frm_too h (i:=k) (by omega)
   have h2:=frm_lo (s:=s) (i:=k) (by omega)
   have h3:=E_step h (i:=k) (by omega)
   rw[sumC_succ h2.1 (by omega),sum_eq h k (by omega),sumL]
   rw[if_neg (by omega)]
   split<;>omega
end X
end Go.Vm
namespace Go.Vm
namespace X
open W Go.Proofs.St
theorem getD_rep {n j:Nat} {v:Int} (h:j<n):(List.replicate n v).getD j 0=v:=by
 rw[List.getD,List.getElem?_replicate,if_pos h];rfl
def prof (s:List Int×List Int):List Int:=(List.range (hi (endsL s.1) s.1.length-lo (endsL s.1) s.1.length).toNat).map fun(j:Nat)=>((cnt (endsL s.1) (lo (endsL s.1) s.1.length+j) s.1.length:Nat):Int)
theorem prof_len (s:List Int×List Int):(prof s).length=(hi (endsL s.1) s.1.length-lo (endsL s.1) s.1.length).toNat:=by simp[prof]
theorem prof_at {s:List Int×List Int} {j:Nat} (h:j< (hi (endsL s.1) s.1.length-lo (endsL s.1) s.1.length).toNat):(prof s).getD j 0=((cnt (endsL s.1) (lo (endsL s.1) s.1.length+j) s.1.length:Nat):Int):=by
 unfold prof
 rw[List.getD,List.getElem?_map,List.getElem?_range h];rfl
theorem Profile_ok {s:List Int×List Int} (h:Valid s):piles_Profile fuel s=some (prof s,0):=by
 apply Ret.eq
 unfold piles_Profile
 rw[show(s.1,s.2)=s from rfl,of_ok h]
 simp only[Option.bind_some,ne_eq,not_true_eq_false,decide_false,cond_false]
 rw[strips_Span_valid h]
 simp only[Option.bind_some]
 have hn:=h.1
 have hel:=endsL_len s.1
 obtain⟨il,l1,l2⟩:=lo_at (E:=endsL s.1) (k:=s.1.length)
 obtain⟨ih_,u1,u2⟩:=hi_at (E:=endsL s.1) (k:=s.1.length)
 have bl:=E_bd h l1
 have bu:=E_bd h u1
 rw[←l2] at bl
 rw[←u2] at bu
 have hlh:lo (endsL s.1) s.1.length≤hi (endsL s.1) s.1.length:=by
  have a:=lo_le (E:=endsL s.1) (k:=s.1.length) (i:=0) (by omega)
  have b:=le_hi (E:=endsL s.1) (k:=s.1.length) (i:=0) (by omega)
  omega
 have hfl:∀i:Nat,i<s.1.length→lo (endsL s.1) s.1.length≤frm (endsL s.1) i∧too (endsL s.1) i≤hi (endsL s.1) s.1.length∧frm (endsL s.1) i≤too (endsL s.1) i:=fun i hi'=>by
  have a:=frm_lo (s:=s) hi'
  have b:=frm_too h hi'
  have c:=E_step h hi'
  omega
 generalize hL:lo (endsL s.1) s.1.length=l at *
 generalize hU:hi (endsL s.1) s.1.length=u at *
 refine Ret_chk (i64b_t (by omega) (by omega)) (Ret_chk (by simp only[Bool.and_eq_true,decide_eq_true_eq];omega) ?_)
 refine Ret_loop (Inv:=fun x:Int×(List Int×Option Nat)=>0≤x.1∧x.1≤s.1.length∧x.2.2=some (u-l).toNat∧x.2.1.length=(u-l).toNat∧∀j:Nat,j< (u-l).toNat→x.2.1.getD j 0=((cnt (endsL s.1) (l+j) x.1.toNat:Nat):Int)) (m:=fun x=>((s.1.length:Int)-x.1).toNat) ?_ _ _ ⟨by simp,by simp,rfl,by simp,fun j hj=>by simp only[getD_rep hj];rfl⟩ (by simp only[fuel];omega)
 rintro ⟨i,out,cp⟩ rec ⟨i1,i2,i3,i4,i5⟩ ih
 simp only at i1 i2 i3 i4 i5 ⊢
 refine Ret_dec (fun hlt=>?_) fun hge=>?_
 ·obtain⟨f1,f2,f3⟩:=hfl i.toNat (by omega)
  refine Ret_bind (Ret.of (from_ok i1 (by omega) (by omega))) fun r e=>?_
  subst e
  refine Ret_loop (Inv:=fun x:Int×(List Int×Option Nat)=>frm (endsL s.1) i.toNat≤x.1∧x.1≤too (endsL s.1) i.toNat∧x.2.2=some (u-l).toNat∧x.2.1.length=(u-l).toNat∧∀j:Nat,j< (u-l).toNat→x.2.1.getD j 0=((cnt (endsL s.1) (l+j) i.toNat:Nat):Int)+if frm (endsL s.1) i.toNat≤l+j∧l+j<x.1 then 1 else 0) (m:=fun x=>(too (endsL s.1) i.toNat-x.1).toNat) ?_ _ _ ⟨by simp,by simp only;omega,i3,i4,fun j hj=>by simp only;rw[i5 j hj,if_neg (by omega)];omega⟩ (by simp only[fuel];omega)
  rintro ⟨a,o,c⟩ rec2 ⟨k1,k2,k3,k4,k5⟩ ih2
  simp only at k1 k2 k3 k4 k5 ⊢
  refine Ret_bind (Ret.of (to_ok i1 (by omega) (by omega))) fun r e=>?_
  subst e
  refine Ret_dec (fun hlt2=>?_) fun hge2=>?_
  ·have hc:=k5 (a-l).toNat (by omega)
   rw[if_neg (by omega)] at hc
   have hcb:=cnt_le (E:=endsL s.1) (v:=l+ ((a-l).toNat:Nat)) (k:=i.toNat)
   refine Ret_chk (i64b_t (by omega) (by omega)) (Ret_chk (inb_t (by omega) (by omega)) (Ret_chk (i64b_t (by omega) (by omega)) (Ret_chk (inb_t (by omega) (by omega)) (Ret_chk (i64b_t (by omega) (by omega)) (ih2 _ ⟨by simp only;omega,by simp only;omega,k3,by simp only[List.length_set];exact k4,fun j hj=>?_⟩ (by simp only;omega))))))
   simp only
   rw[getD_set (by omega)]
   by_cases hja:j=(a-l).toNat
   ·rw[if_pos hja,hja,hc,if_pos (by omega)];omega
   ·rw[if_neg hja,k5 j hj]
    split<;>split<;>omega
  ·refine Ret_chk (i64b_t (by omega) (by omega)) (ih _ ⟨by simp only;omega,by simp only;omega,k3,k4,fun j hj=>?_⟩ (by simp only;omega))
   simp only
   rw[k5 j hj,show(i+1).toNat=i.toNat+1 by omega,cnt]
   have e:isO (endsL s.1) (l+j) i.toNat=(decide (frm (endsL s.1) i.toNat≤l+j)&&decide (l+j<too (endsL s.1) i.toNat)):=rfl
   rw[e]
   by_cases g1:frm (endsL s.1) i.toNat≤l+j<;>by_cases g2:l+j<too (endsL s.1) i.toNat<;>simp only[g1,g2,decide_true,decide_false,Bool.and_self,Bool.and_false,Bool.false_and,cond_true,cond_false,true_and,false_and,if_false]<;>(try split)<;>omega
 ·refine Ret_chk (by simp[capIs,i3,i4]) (Ret_some ?_)
  congr 1
  refine ext_getD (by rw[i4,prof_len,hL,hU]) fun j hj=>?_
  have:=prof_at (s:=s) (j:=j) (by rw[hL,hU];omega)
  rw[this,i5 j (by omega),hL,show i.toNat=s.1.length by omega]
theorem idL_O {n:Nat} (hn:n≤1000):law17_O_Of fuel ([],(n:Int))=some (idL n):=by
 apply Ret.eq
 unfold law17_O_Of
 refine left_loop (n:=n) hn (K:=fun l=>loopF _ fuel (l,([],0))) ?_
 refine Ret_loop (Inv:=fun x:List Int×(List Int×Int)=>0≤x.2.2∧x.2.2≤n∧x.1=(idL n).drop x.2.2.toNat∧x.2.1=(idL n).take x.2.2.toNat) (m:=fun x=>((n:Int)-x.2.2).toNat) ?_ _ _ ⟨by simp,by simp,by simp,by simp⟩ (by simp only[fuel];omega)
 rintro ⟨left,out,i⟩ rec ⟨i1,i2,i3,i4⟩ ih
 simp only at i1 i2 i3 i4 ⊢
 have hl:left.length=n-i.toNat:=by rw[i3,List.length_drop,idL_len]
 have ho:out.length≤n:=by rw[i4,List.length_take,idL_len];omega
 refine Ret_dec (fun hlt=>?_) fun hge=>?_
 ·refine Ret_dec (fun h=>absurd h (by simp;omega)) fun _=>?_
  rw[show(1:Nat)=0+1 from rfl,take_drop_all]
  refine Ret_chk (inb_t (by omega) (by omega)) (Ret_chk (lenOk_t (by omega)) (Ret_chk (by simp[bnb]) (Ret_chk (by simp[bnb];omega) (Ret_chk ?_ (Ret_chk (i64b_t (by omega) (by omega)) (ih _ ⟨by simp only;omega,by simp only;omega,?_,?_⟩ (by simp only;omega)))))))
  ·simp[lenOk,ble_dec]
   omega
  ·simp only[List.take_zero,List.nil_append]
   rw[i3,List.drop_drop,show(i+1).toNat=i.toNat+ (0+1) by omega]
  ·simp only
   rw[show(i+1).toNat=i.toNat+1 by omega,take_snoc (by rw[idL_len];omega),i4]
   congr 2
   rw[i3,List.getD,List.getElem?_drop,Nat.add_zero]
   rfl
 ·exact Ret_some (by rw[i4,List.take_of_length_le (by rw[idL_len];omega)])
end X
end Go.Vm
namespace Go.Vm
namespace X
open W Go.Proofs.St
def ab (a c:Int) (O:List Int):Nat:=(O.filter fun x=>decide (x=a)||decide (x=c)).length
theorem ab_snoc {a c x:Int} {O:List Int}:ab a c (O++[x])=ab a c O+if x=a∨x=c then 1 else 0:=by
 unfold ab
 rw[List.filter_append,List.length_append,List.filter_cons,List.filter_nil]
 by_cases h1:x=a<;>by_cases h2:x=c<;>simp[h1,h2]
theorem ab_le {a c:Int} {O:List Int}:ab a c O≤O.length:=List.length_filter_le _ _
theorem ab_eq {a c:Int}:∀ {O:List Int},O.Nodup→ab a c O=if a=c then(if a∈O then 1 else 0) else(if a∈O then 1 else 0)+ (if c∈O then 1 else 0)
 | [],_=>by simp[ab]
 | x::O,h=>by
   obtain⟨h1,h2⟩:=List.nodup_cons.1 h
   have ih:=ab_eq (a:=a) (c:=c) h2
   unfold ab at ih ⊢
   rw[List.filter_cons]
   simp only[List.mem_cons]
   by_cases e1:x=a
   ·subst e1
    have:x∉O:=h1
    simp only[decide_true,Bool.true_or,if_true,List.length_cons,true_or] at ih ⊢
    rw[ih]
    by_cases e2:x=c
    ·subst e2;simp[h1]
    ·have e3:¬c=x:=fun h=>e2 h.symm
     simp[h1,e2,e3];omega
   ·have e1':¬a=x:=fun h=>e1 h.symm
    by_cases e2:x=c
    ·subst e2
     simp[h1,e1,e1'] at ih ⊢
     rw[ih]
    ·have e2':¬c=x:=fun h=>e2 h.symm
     simp only[e1,e2,e1',e2',decide_false,Bool.or_self,false_or,if_false,Bool.false_eq_true] at ih ⊢
     exact ih
theorem ab_iff {a c:Int} {O:List Int} (h:O.Nodup):(ab a c O=2∨(ab a c O=1∧a=c))↔(a∈O∧c∈O):=by
 rw[ab_eq h]
 by_cases e:a=c
 ·subst e
  by_cases g:a∈O<;>simp[g]
 ·by_cases g1:a∈O<;>by_cases g2:c∈O<;>simp[e,g1,g2]
theorem mem_overL {E p:List Int} {v x:Int}:x∈overL E p v↔x∈p∧frm E x.toNat≤v∧v<too E x.toNat:=by
 simp[overL,isOver,List.mem_filter]
theorem overL_nodup {E p:List Int} {v:Int} (h:p.Nodup):(overL E p v).Nodup:=h.filter _
theorem sumC_bd {E:List Int} {l:Int} {k:Nat} (hk:k≤32):∀m:Nat,0≤sumC E l k m∧sumC E l k m≤32*m
 | 0=>by simp[sumC]
 | m+1=>by
   have h1:=sumC_bd (E:=E) (l:=l) hk m
   have h2:=cnt_le (E:=E) (v:=l+m) (k:=k)
   unfold sumC
   omega
theorem sumL_bd {L:List Int} (h:∀x∈L,1≤x∧x≤64):∀k,k≤L.length→0≤sumL L k∧sumL L k≤64*k
 | 0,_=>by simp[sumL]
 | k+1,hk=>by
   have h1:=sumL_bd h k (by omega)
   have h2:=h _ (getD_mem (L:=L) (i:=k) (by omega))
   unfold sumL
   omega
theorem ovl_next {s:List Int×List Int} (h:Valid s) {i:Nat} (hi:i+1<s.1.length):ovl (endsL s.1) i (i+1)=true:=by
 have h1:=E_step h (i:=i) (by omega)
 have h2:=E_step h (i:=i+1) (by omega)
 unfold ovl frm too
 simp only[Bool.and_eq_true,decide_eq_true_eq]
 omega
theorem both_iff {s:List Int×List Int} (h:Valid s) {a c:Int}:
  (∃i:Nat,i< (hi (endsL s.1) s.1.length-lo (endsL s.1) s.1.length).toNat∧a∈overL (endsL s.1) (idL s.1.length) (lo (endsL s.1) s.1.length+i)∧c∈overL (endsL s.1) (idL s.1.length) (lo (endsL s.1) s.1.length+i))↔(decide (0≤a)&&decide (0≤c)&&decide (a<s.1.length)&&decide (c<s.1.length)&&ovl (endsL s.1) a.toNat c.toNat)=true:=by
 simp only[mem_overL,mem_idL,ovl,Bool.and_eq_true,decide_eq_true_eq]
 constructor
 ·rintro ⟨i,h1,⟨⟨h2,h3⟩,h4,h5⟩,⟨h6,h7⟩,h8,h9⟩
  omega
 ·rintro ⟨⟨⟨⟨h1,h2⟩,h3⟩,h4⟩,h5,h6⟩
  have f1:=frm_lo (s:=s) (i:=a.toNat) (by omega)
  have f2:=frm_lo (s:=s) (i:=c.toNat) (by omega)
  have g1:=frm_too h (i:=a.toNat) (by omega)
  have g2:=frm_too h (i:=c.toNat) (by omega)
  have k1:=E_step h (i:=a.toNat) (by omega)
  have k2:=E_step h (i:=c.toNat) (by omega)
  refine⟨(max (frm (endsL s.1) a.toNat) (frm (endsL s.1) c.toNat)-lo (endsL s.1) s.1.length).toNat,?_,⟨⟨h1,h3⟩,?_,?_⟩,⟨h2,h4⟩,?_,?_⟩<;>omega
theorem law17_PilesProfile_true {a0 a1:List Int} (h0:bytes a0) (h1:bytes a1) {a c:Int}:law17_PilesProfile fuel ((a0,a1),(a,c))=some true:=by
 apply Ret.eq
 unfold law17_PilesProfile
 refine Ret_bind (law16_T_Of_ok (a:=(a0,a1)) h0 h1) fun s hs=>?_
 have h:=hs.valid
 rw[show(s.1,s.2)=s from rfl,Profile_ok h,Option.bind_some,strips_Span_valid h,Option.bind_some]
 have hn:=h.1
 have hn1:1≤s.1.length:=hs.1
 obtain⟨il,l1,l2⟩:=lo_at (E:=endsL s.1) (k:=s.1.length)
 obtain⟨ih_,u1,u2⟩:=hi_at (E:=endsL s.1) (k:=s.1.length)
 have bl:=E_bd h l1
 have bu:=E_bd h u1
 rw[←l2] at bl
 rw[←u2] at bu
 have hlh:lo (endsL s.1) s.1.length≤hi (endsL s.1) s.1.length:=by
  have a:=lo_le (E:=endsL s.1) (k:=s.1.length) (i:=0) (by omega)
  have b:=le_hi (E:=endsL s.1) (k:=s.1.length) (i:=0) (by omega)
  omega
 have hpl:=prof_len s
 have hpa:=fun j hj=>prof_at (s:=s) (j:=j) hj
 have hsum:=sum_eq h s.1.length (Nat.le_refl _)
 have hbo:=both_iff h (a:=a) (c:=c)
 have hbo2:=both_iff h (a:=c) (c:=a)
 have hsb:=sumC_bd (E:=endsL s.1) (l:=lo (endsL s.1) s.1.length) hn
 simp only
 generalize hL:lo (endsL s.1) s.1.length=l at *
 generalize hU:hi (endsL s.1) s.1.length=u at *
 generalize prof s=P at hpl hpa ⊢
 refine Ret_dec (fun g=>absurd rfl g) fun _=>Ret_dec (fun g=>absurd rfl g) fun _=>?_
 refine Ret_chk (i64b_t (by omega) (by omega)) (Ret_dec (fun g=>absurd g (by rw[hpl];omega)) fun _=>Ret_dec (fun g=>absurd rfl g) fun _=>?_)
 rw[idL_O (by omega),Option.bind_some]
 refine Ret_loop (Inv:=fun x:Int×(Bool×Int)=>0≤x.2.2∧x.2.2≤P.length∧x.1=sumC (endsL s.1) l s.1.length x.2.2.toNat∧(x.2.1=true↔∃i:Nat,i<x.2.2.toNat∧a∈overL (endsL s.1) (idL s.1.length) (l+i)∧c∈overL (endsL s.1) (idL s.1.length) (l+i))) (m:=fun x=>((P.length:Int)-x.2.2).toNat) ?_ _ _ ⟨by simp,by simp,rfl,by simp⟩ (by simp only[fuel];omega)
 rintro ⟨tot,both,j⟩ rec ⟨i1,i2,i3,i4⟩ ih
 simp only at i1 i2 i3 i4 ⊢
 refine Ret_dec (fun hlt=>?_) fun hge=>?_
 ·refine Ret_chk (i64b_t (by omega) (by omega)) (Ret_bind (Ret.of (over_ok h (p:=idL s.1.length) (fun x hx=>mem_idL.1 hx) (by rw[idL_len];omega) (l+j))) fun O hO=>?_)
  have hnd:O.Nodup:=by rw[hO];exact overL_nodup (idL_nodup _)
  have hol:O.length=cnt (endsL s.1) (l+j) s.1.length:=by rw[hO];exact over_len _
  have hcl:=cnt_le (E:=endsL s.1) (v:=l+j) (k:=s.1.length)
  have hpj:=hpa j.toNat (by omega)
  rw[show l+ (j.toNat:Int)=l+j by omega] at hpj
  refine Ret_chk (inb_t (by omega) (by omega)) (Ret_dec (fun g=>absurd g (by rw[hpj,hol];omega)) fun _=>?_)
  have b1:=hsb j.toNat
  rw[hpj]
  refine Ret_chk (inb_t (by omega) (by omega)) (Ret_chk (i64b_t (by omega) (by omega)) ?_)
  refine Ret_loop (Inv:=fun x:Int×Int=>0≤x.2∧x.2≤O.length∧x.1=ab a c (O.take x.2.toNat)) (m:=fun x=>((O.length:Int)-x.2).toNat) ?_ _ _ ⟨by simp,by simp,by simp[ab]⟩ (by simp only[fuel];omega)
  rintro ⟨th,k⟩ rec2 ⟨k1,k2,k3⟩ ih2
  simp only at k1 k2 k3 ⊢
  refine Ret_dec (fun hlt2=>?_) fun hge2=>?_
  ·have hab:ab a c (O.take (k+1).toNat)=ab a c (O.take k.toNat)+if O.getD k.toNat 0=a∨O.getD k.toNat 0=c then 1 else 0:=by
    rw[show(k+1).toNat=k.toNat+1 by omega,take_snoc (by omega),ab_snoc]
   have hal:=ab_le (a:=a) (c:=c) (O:=O.take k.toNat)
   rw[List.length_take] at hal
   refine Ret_chk (inb_t (by omega) (by omega)) (Ret_dec (fun g1=>?_) fun g1=>?_)
   ·refine Ret_chk (i64b_t (by omega) (by omega)) (Ret_chk (i64b_t (by omega) (by omega)) (ih2 _ ⟨by simp only;omega,by simp only;omega,?_⟩ (by simp only;omega)))
    simp only
    rw[hab,if_pos (.inl g1)];omega
   ·refine Ret_chk (inb_t (by omega) (by omega)) (Ret_dec (fun g2=>?_) fun g2=>?_)
    ·refine Ret_chk (i64b_t (by omega) (by omega)) (Ret_chk (i64b_t (by omega) (by omega)) (ih2 _ ⟨by simp only;omega,by simp only;omega,?_⟩ (by simp only;omega)))
     simp only
     rw[hab,if_pos (.inr g2)];omega
    ·refine Ret_chk (i64b_t (by omega) (by omega)) (ih2 _ ⟨by simp only;omega,by simp only;omega,?_⟩ (by simp only;omega))
     simp only
     rw[hab,if_neg (fun g=>g.elim g1 g2)];omega
  ·have hth:th=ab a c O:=by rw[k3,List.take_of_length_le (by omega)]
   have hiff:=ab_iff (a:=a) (c:=c) hnd
   have hs1:sumC (endsL s.1) l s.1.length (j+1).toNat=sumC (endsL s.1) l s.1.length j.toNat+cnt (endsL s.1) (l+j) s.1.length:=by
    rw[show(j+1).toNat=j.toNat+1 by omega,sumC,show l+ (j.toNat:Int)=l+j by omega]
   have hO2:O=overL (endsL s.1) (idL s.1.length) (l+ (j.toNat:Nat)):=by rw[hO,show l+ (j.toNat:Int)=l+j by omega]
   have nxt:∀b':Bool,(b'=true↔both=true∨(a∈O∧c∈O))→Ret (chk (i64b (j+1)) (rec (tot+ (cnt (endsL s.1) (l+j) s.1.length:Nat),(b',j+1)))) fun x=>x=true:=fun b' hb=>by
    refine Ret_chk (i64b_t (by omega) (by omega)) (ih _ ⟨by simp only;omega,by simp only;omega,by simp only;rw[hs1,i3],?_⟩ (by simp only;omega))
    simp only
    rw[hb,i4,hO2]
    constructor
    ·rintro (⟨i,g1,g2⟩ | g)
     ·exact⟨i,by omega,g2⟩
     ·exact⟨j.toNat,by omega,g⟩
    ·rintro ⟨i,g1,g2⟩
     by_cases e:i<j.toNat
     ·exact .inl ⟨i,e,g2⟩
     ·obtain rfl:i=j.toNat:=by omega
      exact .inr g2
   cases both with
   | true=>exact nxt true (by simp)
   | false=>
     simp only[cond_false]
     refine Ret_dec (fun g1=>?_) fun g1=>?_
     ·exact nxt true (by simp only[Bool.false_eq_true,false_or,true_iff];exact hiff.1 (.inl (by omega)))
     ·refine Ret_dec (fun g2=>?_) fun g2=>?_
      ·refine nxt (decide (a=c)) ?_
       rw[decide_eq_true_eq]
       constructor
       ·intro e;exact .inr (hiff.1 (.inr ⟨by omega,e⟩))
       ·rintro (e | e)
        ·cases e
        ·rcases hiff.2 e with e | e
         ·omega
         ·exact e.2
      ·refine nxt false ?_
       constructor
       ·intro e;cases e
       ·rintro (e | e)
        ·cases e
        ·rcases hiff.2 e with e | e<;>omega
 ·refine Ret_loop (Inv:=fun x:Int×Int=>0≤x.2∧x.2≤s.1.length∧x.1=sumL s.1 x.2.toNat) (m:=fun x=>((s.1.length:Int)-x.2).toNat) ?_ _ _ ⟨by simp,by simp,rfl⟩ (by simp only[fuel];omega)
  rintro ⟨area,i⟩ rec2 ⟨k1,k2,k3⟩ ih2
  simp only at k1 k2 k3 ⊢
  have b2:=sumL_bd h.2.2.1 i.toNat (by omega)
  refine Ret_dec (fun hlt2=>?_) fun hge2=>?_
  ·have hw:=h.2.2.1 _ (getD_mem (L:=s.1) (i:=i.toNat) (by omega))
   have hs1:sumL s.1 (i+1).toNat=sumL s.1 i.toNat+s.1.getD i.toNat 0:=by
    rw[show(i+1).toNat=i.toNat+1 by omega,sumL]
   refine Ret_chk (inb_t (by omega) (by omega)) (Ret_chk (i64b_t (by omega) (by omega)) ?_)
   refine Ret_dec (fun g=>?_) fun g=>?_
   ·refine Ret_chk (i64b_t (by omega) (by omega)) ?_
    rw[Overlap_ok h,Option.bind_some]
    have hv:=ovl_next h (i:=(i-1).toNat) (by omega)
    rw[show(i-1).toNat+1=i.toNat by omega] at hv
    rw[hv,decide_eq_true (show 0≤i-1 by omega),decide_eq_true (show 0≤i by omega),decide_eq_true (show i-1<s.1.length by omega),decide_eq_true hlt2]
    simp only[Bool.and_self,Bool.not_true,cond_false]
    exact Ret_chk (i64b_t (by omega) (by omega)) (ih2 _ ⟨by simp only;omega,by simp only;omega,by simp only;rw[hs1,k3]⟩ (by simp only;omega))
   ·exact Ret_chk (i64b_t (by omega) (by omega)) (ih2 _ ⟨by simp only;omega,by simp only;omega,by simp only;rw[hs1,k3]⟩ (by simp only;omega))
  ·have ej:j.toNat=(u-l).toNat:=by omega
   have ei:i.toNat=s.1.length:=by omega
   rw[ej] at i3 i4
   refine Ret_dec (fun _=>?_) fun g=>absurd (by rw[i3,k3,ei,hsum]) g
   rw[Overlap_ok h,Option.bind_some]
   have e1:=i4.trans hbo
   have e2:=i4.trans ((by constructor<;>rintro ⟨i,g1,g2,g3⟩<;>exact⟨i,g1,g3,g2⟩:_↔_).trans hbo2)
   rw[show(_:Bool)=both from Bool.eq_iff_iff.2 e1.symm]
   simp only[beq_self_eq_true,cond_true]
   rw[Overlap_ok h,Option.bind_some]
   rw[show(_:Bool)=both from Bool.eq_iff_iff.2 e2.symm]
   simp only[beq_self_eq_true,cond_true]
   rw[lives17]
   exact Ret_some rfl
end X
end Go.Vm
