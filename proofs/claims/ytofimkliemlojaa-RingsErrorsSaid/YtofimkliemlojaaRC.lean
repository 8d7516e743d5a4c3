/-
  Rings: plain laws: ranks, between, crosses, kind, wrong, listed, Valid.
  Rings: the law RingsValid.
  Rings: the law RingsValid.
  Rings: piles that are the same, and the least of them: what is shared with the piles of strips.
  Rings: all orders in their order; Least; the law RingsLeast.
  Rings: Least.
  Rings: the search for the ways.
  Rings: the law RingsCount.
-/
import Derived.Test.YtofimkliemlojaaRB
import Derived.KernelRfl
import Derived.Test.YtofimkliemlojaaVmY4
set_option linter.unusedSimpArgs false
set_option linter.unusedVariables false
set_option linter.unusedSectionVars false
set_option linter.unnecessarySimpa false
namespace Go.Vm
namespace X
open W Go.Proofs.St
theorem contains_ok {p:List Int} (hl:p.length≤10000) (x:Int):slices_Contains_int fuel (p,x)=some (decide (x∈p)):=by
 apply Ret.eq
 unfold slices_Contains_int
 refine Ret_loop (Inv:=fun i:Int=>0≤i∧i≤p.length∧∀k:Nat,(k:Int)<i→p.getD k 0≠x) (m:=fun i=>((p.length:Int)-i).toNat) ?_ _ _ ⟨by simp,by simp,fun k h=>by omega⟩ (by simp only[fuel];omega)
 rintro i rec ⟨i1,i2,i3⟩ ih
 simp only
 refine Ret_dec (fun hlt=>?_) fun hge=>?_
 ·refine Ret_chk (inb_t (by omega) (by omega)) (Ret_dec (fun e=>Ret_some ?_) fun e=>Ret_chk (i64b_t (by omega) (by omega)) (ih _ ⟨by omega,by omega,fun k hk=>?_⟩ (by omega)))
  ·have:x∈p:=by rw[e];exact getD_mem (by omega)
   rw[decide_eq_true this]
   exact decide_eq_true i1
  ·by_cases e':(k:Int)=i
   ·rw[show k=i.toNat by omega];exact fun h=>e h.symm
   ·exact i3 k (by omega)
 ·refine Ret_some ?_
  rw[decide_eq_false (not_mem_getD fun k hk=>i3 k (by omega))]
structure RkR (p r:List Int):Prop where
 len:r.length=32
 rk:Rk p r
 no:∀k:Nat,k<32→(k:Int)∉p→r.getD k 0= -1
theorem rings_rank_ok {p:List Int} {n:Nat} (hp:In n p) (hd:p.Nodup) (hn:n≤32) (hl:p.length≤10000):Ret (rings_rank fuel p) (RkR p):=by
 unfold rings_rank
 refine Ret_loop (Inv:=fun x:Int×List Int=>0≤x.1∧x.1≤32∧x.2.length=32∧∀k:Nat,k<x.1.toNat→x.2.getD k 0= -1) (m:=fun x=>(32-x.1).toNat) ?_ _ _ ⟨by simp,by simp,rfl,by simp⟩ (by simp only[fuel];omega)
 rintro ⟨i,r⟩ rec ⟨i1,i2,i3,i4⟩ ih
 simp only at i1 i2 i3 i4 ⊢
 refine Ret_dec (fun hlt=>?_) fun hge=>?_
 ·refine Ret_chk (inb_t (by omega) (by omega)) (Ret_chk (i64b_t (by omega) (by omega)) (ih _ ⟨by simp only;omega,by simp only;omega,by simp only[List.length_set];exact i3,fun k hk=>?_⟩ (by simp only;omega)))
  simp only at hk ⊢
  rw[getD_set (by omega)]
  split
  ·rfl
  ·exact i4 k (by omega)
 ·refine Ret_loop (Inv:=fun x:Int×List Int=>0≤x.1∧x.1≤p.length∧x.2.length=32∧(∀k:Nat,k<x.1.toNat→x.2.getD (p.getD k 0).toNat 0=k)∧∀k:Nat,k<32→(k:Int)∉p→x.2.getD k 0= -1) (m:=fun x=>((p.length:Int)-x.1).toNat) ?_ _ _ ⟨by simp,by simp,i3,by simp,fun k hk _=>i4 k (by omega)⟩ (by simp only[fuel];omega)
  rintro ⟨i,r⟩ rec ⟨i1,i2,i3,i4,i5⟩ ih
  simp only at i1 i2 i3 i4 i5 ⊢
  refine Ret_dec (fun hlt=>?_) fun hge=>?_
  ·have hm:=getD_mem (L:=p) (i:=i.toNat) (by omega)
   have hx:=hp _ hm
   have:=set_rk hd hp (by omega) (by omega) i4
   rw[show((i.toNat:Nat):Int)=i by omega,show i.toNat+1=(i+1).toNat by omega] at this
   refine Ret_chk (inb_t (by omega) (by omega)) (Ret_chk (inb_t (by omega) (by omega)) (Ret_chk (i64b_t (by omega) (by omega)) (ih _ ⟨by simp only;omega,by simp only;omega,by simp only[List.length_set];exact i3,this,fun k hk hkp=>?_⟩ (by simp only;omega))))
   simp only
   rw[getD_set (by omega),if_neg (fun e=>hkp (by rw[e,show(((p.getD i.toNat 0).toNat:Nat):Int)=p.getD i.toNat 0 by omega];exact hm))]
   exact i5 k hk hkp
  ·exact Ret_some ⟨i3,fun k hk=>i4 k (by omega),i5⟩
section
variable {L K E:List Int} (hL:L.length≤32)
include hL
theorem rings_from_ok (hE:E.length=L.length+1) {i:Int} (h0:0≤i) (h1:i<L.length):rings_folded_from fuel (((L,K),E),i)=some (frm E i.toNat):=by
 unfold rings_folded_from
 rw[chk_t (inb_t h0 (by simp only;omega)),chk_t (i64b_t (by simp only;omega) (by simp only;omega)),chk_t (inb_t (by simp only;omega) (by simp only;omega))]
 simp only[frm,show(i+1).toNat=i.toNat+1 by omega]
theorem rings_to_ok (hE:E.length=L.length+1) {i:Int} (h0:0≤i) (h1:i<L.length):rings_folded_to fuel (((L,K),E),i)=some (too E i.toNat):=by
 unfold rings_folded_to
 rw[chk_t (inb_t h0 (by simp only;omega)),chk_t (i64b_t (by simp only;omega) (by simp only;omega)),chk_t (inb_t (by simp only;omega) (by simp only;omega))]
 simp only[too,show(i+1).toNat=i.toNat+1 by omega]
theorem rings_behind_ok {i:Int} (h0:0≤i) (h1:i<L.length):rings_folded_behind fuel (((L,K),E),i)=some (sc L.length i):=by
 unfold rings_folded_behind
 rw[chk_t (i64b_t (by simp only;omega) (by simp only;omega)),chk_t (by simp only[Bool.and_eq_true,decide_eq_true_eq];omega)]
 simp only
 congr 1
 unfold sc
 split
 ·exact Int.emod_eq_of_lt (by omega) (by omega)
 ·rw[show i+1=(L.length:Int) by omega,Int.emod_self]
end
def BetP (n:Nat) (f:Int→Int) (i x:Int):Prop:=0≤min (f i) (f (sc n i))∧BetR n f i x
instance (n:Nat) (f:Int→Int) (i x:Int):Decidable (BetR n f i x):=by unfold BetR;infer_instance
instance (n:Nat) (f:Int→Int) (i x:Int):Decidable (BetP n f i x):=by unfold BetP;infer_instance
theorem rings_between_ok {L K E r:List Int} (hL:L.length≤32) {i v:Int} (h0:0≤i) (h1:i<L.length) (v0:0≤v) (v1:v<L.length):rings_folded_between fuel (((L,K),E),(r,(i,v)))=some (decide (BetP L.length (fun x=>r.getD x.toNat 0) i v)):=by
 have hs:0≤sc L.length i∧sc L.length i<L.length:=by unfold sc;split<;>omega
 unfold rings_folded_between
 simp only
 rw[chk_t (inb_t h0 (by omega)),rings_behind_ok hL h0 h1,Option.bind_some,chk_t (inb_t hs.1 (by omega)),chk_t (inb_t v0 (by omega)),chk_t (inb_t v0 (by omega))]
 have e:∀b:Bool,(b=true↔BetP L.length (fun x=>r.getD x.toNat 0) i v)→some b=some (decide (BetP L.length (fun x=>r.getD x.toNat 0) i v)):=fun b hb=>by
  congr 1
  rw[Bool.eq_iff_iff,decide_eq_true_eq]
  exact hb
 by_cases g0:(0:Int)≤min (r.getD i.toNat 0) (r.getD (sc L.length i).toNat 0)
 ·rw[decide_eq_true g0,cond_true]
  by_cases g:min (r.getD i.toNat 0) (r.getD (sc L.length i).toNat 0)<r.getD v.toNat 0
  ·rw[decide_eq_true g,cond_true]
   refine e _ ?_
   rw[decide_eq_true_eq]
   exact⟨fun h=>⟨g0,g,h⟩,fun h=>h.2.2⟩
  ·rw[decide_eq_false g,cond_false]
   exact e _ ⟨fun h=>(by cases h),fun h=>absurd h.2.1 g⟩
 ·rw[decide_eq_false g0,cond_false]
  exact e _ ⟨fun h=>(by cases h),fun h=>absurd h.1 g0⟩
def CrossPA (E:List Int) (n:Nat) (f:Int→Int) (i:Int):Prop:=(∃j:Int,0≤j∧j<n∧frm E j.toNat<E.getD (i.toNat+1) 0∧E.getD (i.toNat+1) 0<too E j.toNat∧BetP n f i j)∨
 ∃j:Int,0≤j∧j<n∧j≠i∧E.getD (j.toNat+1) 0=E.getD (i.toNat+1) 0∧(E.getD (i.toNat+1) 0<E.getD j.toNat 0↔E.getD (i.toNat+1) 0<E.getD i.toNat 0)∧0≤min (f j) (f (sc n j))∧¬(BetP n f i j↔BetP n f i (sc n j))
def CrossP (E:List Int) (n:Nat) (f:Int→Int):Prop:=∃i:Int,0≤i∧i<n∧CrossPA E n f i
theorem mem_bes {k:Nat} {E:List Int} {cr:Nat} {x:Int}:x∈(besL k E cr).map (fun(i:Nat)=>(i:Int))↔0≤x∧x<k∧x≠cr∧E.getD (x.toNat+1) 0=E.getD (cr+1) 0∧(E.getD (cr+1) 0<E.getD x.toNat 0↔E.getD (cr+1) 0<E.getD cr 0):=by
 simp only[besL,List.mem_map,List.mem_filter,List.mem_range,besP,Bool.and_eq_true,Bool.not_eq_true',decide_eq_true_eq,decide_eq_false_iff_not,beq_iff_eq,decide_eq_decide]
 constructor
 ·rintro ⟨a,⟨h1,h0,h2,h3⟩,rfl⟩
  rw[Int.toNat_natCast]
  exact⟨by omega,by omega,by omega,h2,h3⟩
 ·rintro ⟨h1,h2,h0,h3,h4⟩
  exact⟨x.toNat,⟨by omega,by omega,h3,h4⟩,by omega⟩
theorem rings_crosses_ok {s:List Int×List Int} (h:RValid s) {r:List Int} (hr:r.length=32):Ret (rings_folded_crosses fuel ((s,endR s.1),r)) fun b=>(b=true↔CrossP (endR s.1) s.1.length fun x=>r.getD x.toNat 0):=by
 have hel:=endR_len s.1
 have hn:=h.le
 generalize hf:(fun x:Int=>r.getD x.toNat 0)=f
 have hfx:∀x:Int,r.getD x.toNat 0=f x:=fun x=>by rw[←hf]
 have bt:∀i x:Int,0≤i→i<s.1.length→0≤x→x<s.1.length→rings_folded_between fuel (((s.1,s.2),endR s.1),(r,(i,x)))=some (decide (BetP s.1.length f i x)):=fun i x a b c d=>by
  rw[rings_between_ok hn a b c d]
  simp only[hf]
 unfold rings_folded_crosses
 refine Ret_loop (Inv:=fun x:Int×(Bool×Unit)=>0≤x.1∧x.1≤s.1.length∧x.2.1=false∧∀i:Int,0≤i→i<x.1→¬CrossPA (endR s.1) s.1.length f i) (m:=fun x=>((s.1.length:Int)-x.1).toNat) ?_ _ _ ⟨by simp,by simp,rfl,fun i a b=>by simp at b;omega⟩ (by simp only[fuel];omega)
 rintro ⟨i,bad,_⟩ rec ⟨i1,i2,i3,i4⟩ ih
 simp only at i1 i2 i3 i4 ⊢
 subst i3
 refine Ret_dec (fun hlt=>?_) fun hge=>?_
 ·have ei:(i+1).toNat=i.toNat+1:=by omega
  have found:CrossPA (endR s.1) s.1.length f i→Ret (some true) fun b=>(b=true↔CrossP (endR s.1) s.1.length f):=fun hc=>Ret_some ⟨fun _=>⟨i,i1,by omega,hc⟩,fun _=>rfl⟩
  refine Ret_chk (i64b_t (by omega) (by omega)) (Ret_chk (inb_t (by omega) (by omega)) ?_)
  rw[ei]
  refine Ret_loop (Inv:=fun x:Int×(Bool×Unit)=>0≤x.1∧x.1≤s.1.length∧x.2.1=false∧∀j:Int,0≤j→j<x.1→¬(frm (endR s.1) j.toNat< (endR s.1).getD (i.toNat+1) 0∧(endR s.1).getD (i.toNat+1) 0<too (endR s.1) j.toNat∧BetP s.1.length f i j)) (m:=fun x=>((s.1.length:Int)-x.1).toNat) ?_ _ _ ⟨by simp,by simp,rfl,fun i a b=>by simp at b;omega⟩ (by simp only[fuel];omega)
  rintro ⟨j,bad,_⟩ rec2 ⟨j1,j2,j3,j4⟩ ih2
  simp only at j1 j2 j3 j4 ⊢
  subst j3
  refine Ret_dec (fun hlt2=>?_) fun hge2=>?_
  ·have nxt:¬(frm (endR s.1) j.toNat< (endR s.1).getD (i.toNat+1) 0∧(endR s.1).getD (i.toNat+1) 0<too (endR s.1) j.toNat∧BetP s.1.length f i j)→Ret (chk (i64b (j+1)) (rec2 (j+1,(false,())))) fun b=>(b=true↔CrossP (endR s.1) s.1.length f):=fun hc=>by
    refine Ret_chk (i64b_t (by omega) (by omega)) (ih2 _ ⟨by simp only;omega,by simp only;omega,rfl,fun j' a b=>?_⟩ (by simp only;omega))
    simp only at b
    by_cases e:j'=j
    ·subst e;exact hc
    ·exact j4 j' a (by omega)
   rw[rings_from_ok hn hel j1 hlt2,Option.bind_some]
   refine Ret_dec (fun g1=>?_) fun g1=>nxt fun hh=>g1 hh.1
   rw[rings_to_ok hn hel j1 hlt2,Option.bind_some]
   refine Ret_dec (fun g2=>?_) fun g2=>nxt fun hh=>g2 hh.2.1
   rw[bt i j i1 hlt j1 hlt2,Option.bind_some]
   refine Ret_dec (fun g3=>found (.inl ⟨j,j1,hlt2,g1,g2,g3⟩)) fun g3=>nxt fun hh=>g3 hh.2.2
  ·have hla:¬ ∃j:Int,0≤j∧j<s.1.length∧frm (endR s.1) j.toNat< (endR s.1).getD (i.toNat+1) 0∧(endR s.1).getD (i.toNat+1) 0<too (endR s.1) j.toNat∧BetP s.1.length f i j:=fun⟨j',a,b,c⟩=>j4 j' a (by omega) c
   have hrun:besRun (((s.1,s.2),endR s.1),(i,()))=some ((besL s.1.length (endR s.1) i.toNat).map fun(i:Nat)=>(i:Int)):=by
    unfold besRun
    simp only
    rw[show(Nat.blt (List.length (α:=Int) s.1) (List.length (α:=Int) (endR s.1))&&decide ((0:Int)≤i)&&Nat.blt (i.toNat+1) (List.length (α:=Int) (endR s.1))&&Nat.ble (List.length (α:=Int) (endR s.1)) 1000000)=true by
     simp[Nat.blt_eq]
     omega,cond_true]
   rw[hrun,Option.bind_some]
   refine Ret_list (Inv:=fun(l:List Int) (x:Bool×Unit)=>x.1=false∧(∀y∈l,0≤y∧y<s.1.length∧y≠i.toNat∧(endR s.1).getD (y.toNat+1) 0=(endR s.1).getD (i.toNat+1) 0∧((endR s.1).getD (i.toNat+1) 0< (endR s.1).getD y.toNat 0↔(endR s.1).getD (i.toNat+1) 0< (endR s.1).getD i.toNat 0))∧
    ∀j:Int,0≤j→j<s.1.length→j≠i→(endR s.1).getD (j.toNat+1) 0=(endR s.1).getD (i.toNat+1) 0→((endR s.1).getD (i.toNat+1) 0< (endR s.1).getD j.toNat 0↔(endR s.1).getD (i.toNat+1) 0< (endR s.1).getD i.toNat 0)→(0≤min (f j) (f (sc s.1.length j))→(BetP s.1.length f i j↔BetP s.1.length f i (sc s.1.length j)))∨j∈l) ?_ ?_ _ _ ⟨rfl,fun y hy=>mem_bes.1 hy,fun j a b c d e=>.inr (mem_bes.2 ⟨a,b,by omega,d,e⟩)⟩
   ·rintro ⟨bad,_⟩ ⟨k1,_,k2⟩
    simp only at k1
    subst k1
    refine Ret_chk (i64b_t (by omega) (by omega)) (ih _ ⟨by simp only;omega,by simp only;omega,rfl,fun i' a b=>?_⟩ (by simp only;omega))
    simp only at b
    by_cases e:i'=i
    ·subst e
     rintro (hh | ⟨j,a1,a2,a3,a4,a5,a6,a7⟩)
     ·exact hla hh
     ·rcases k2 j a1 a2 a3 a4 a5 with hh | hh
      ·exact a7 (hh a6)
      ·cases hh
    ·exact i4 i' a (by omega)
   ·rintro y l rec3 ⟨bad,_⟩ ⟨k1,k2,k3⟩ ih3
    simp only at k1
    subst k1
    obtain⟨y0,y1,y9,y2,y3⟩:=k2 y List.mem_cons_self
    obtain⟨s0,s1⟩:0≤sc s.1.length y∧sc s.1.length y<s.1.length:=by unfold sc;split<;>omega
    have nxt:(0≤min (f y) (f (sc s.1.length y))→(BetP s.1.length f i y↔BetP s.1.length f i (sc s.1.length y)))→Ret (rec3 (false,())) fun b=>(b=true↔CrossP (endR s.1) s.1.length f):=fun hc=>by
     refine ih3 _ ⟨rfl,fun z hz=>k2 z (List.mem_cons_of_mem _ hz),fun j a b c d e=>?_⟩
     rcases k3 j a b c d e with hh | hh
     ·exact .inl hh
     ·rcases List.mem_cons.1 hh with rfl | hh
      ·exact .inl hc
      ·exact .inr hh
    refine Ret_chk (inb_t (by omega) (by omega)) ?_
    rw[rings_behind_ok hn y0 y1,Option.bind_some]
    refine Ret_chk (inb_t (by omega) (by omega)) ?_
    rw[hfx,hfx]
    refine Ret_dec (fun g=>?_) fun g=>nxt fun hh=>absurd hh g
    rw[bt i y i1 hlt y0 y1,Option.bind_some,Option.bind_some,bt i _ i1 hlt s0 s1,Option.bind_some]
    by_cases e:BetP s.1.length f i y↔BetP s.1.length f i (sc s.1.length y)
    ·rw[show(decide (BetP s.1.length f i y)==decide (BetP s.1.length f i (sc s.1.length y)))=true by rw[beq_iff_eq,decide_eq_decide];exact e]
     exact nxt fun _=>e
    ·rw[show(decide (BetP s.1.length f i y)==decide (BetP s.1.length f i (sc s.1.length y)))=false by rw[beq_eq_false_iff_ne,ne_eq,decide_eq_decide];exact e]
     exact found (.inr ⟨y,y0,y1,by omega,y2,y3,g,e⟩)
 ·refine Ret_some ⟨fun hh=>(by cases hh),?_⟩
  rintro ⟨j,a,b,c⟩
  exact absurd c (i4 j a (by omega))
def kindR (n:Nat) (f:Int→Int) (i:Int):Int:=if i%2=0 then(if f i<f (sc n i) then 2 else 1) else(if f (sc n i)<f i then 2 else 1)
theorem rings_kind_ok {s:List Int×List Int} (h:RValid s) {r:List Int} {i:Int} (h0:0≤i) (h1:i<s.1.length):rings_folded_kind fuel ((s,endR s.1),(r,i))=some (kindR s.1.length (fun x=>r.getD x.toNat 0) i):=by
 have hn:=h.le
 obtain⟨s0,s1,s2,s3⟩:=h.ends.sc_lt h0 h1
 unfold rings_folded_kind
 simp only
 rw[rings_behind_ok hn h0 h1,Option.bind_some,chk_t (by rw[Bool.and_eq_true];exact⟨decide_eq_true s0,rfl⟩)]
 have i1:inb i 32=true:=inb_t h0 (by omega)
 have i2:inb (sc s.1.length i) 32=true:=inb_t s0 (by omega)
 simp only[i1,i2,chk_t]
 unfold kindR
 by_cases e:i%2=0
 ·rw[if_pos e,decide_eq_false (by omega),cond_false]
  by_cases g:r.getD i.toNat 0<r.getD (sc s.1.length i).toNat 0
  ·rw[decide_eq_true g,cond_true,if_pos g]
  ·rw[decide_eq_false g,cond_false,if_neg g]
 ·rw[if_neg e,decide_eq_true (by omega),cond_true]
  by_cases g:r.getD (sc s.1.length i).toNat 0<r.getD i.toNat 0
  ·rw[decide_eq_true g,cond_true,if_pos g]
  ·rw[decide_eq_false g,cond_false,if_neg g]
def WrongP (K:List Int) (n:Nat) (f:Int→Int):Prop:=∃i:Int,0≤i∧i<n∧K.getD i.toNat 0≠3∧0≤min (f i) (f (sc n i))∧K.getD i.toNat 0≠kindR n f i
theorem rings_wrong_ok {s:List Int×List Int} (h:RValid s) {r:List Int} (hr:r.length=32):Ret (rings_folded_wrong fuel ((s,endR s.1),r)) fun b=>(b=true↔WrongP s.2 s.1.length fun x=>r.getD x.toNat 0):=by
 have hn:=h.le
 have hk:=h.kl
 generalize hf:(fun x:Int=>r.getD x.toNat 0)=f
 have hfx:∀x:Int,r.getD x.toNat 0=f x:=fun x=>by rw[←hf]
 unfold rings_folded_wrong
 refine Ret_loop (Inv:=fun x:Int=>0≤x∧x≤s.2.length∧∀i:Int,0≤i→i<x→¬(s.2.getD i.toNat 0≠3∧0≤min (f i) (f (sc s.1.length i))∧s.2.getD i.toNat 0≠kindR s.1.length f i)) (m:=fun x=>((s.2.length:Int)-x).toNat) ?_ _ _ ⟨by simp,by simp,fun i a b=>by omega⟩ (by simp only[fuel];omega)
 rintro i rec ⟨i1,i2,i3⟩ ih
 simp only
 refine Ret_dec (fun hlt=>?_) fun hge=>?_
 ·have nxt:¬(s.2.getD i.toNat 0≠3∧0≤min (f i) (f (sc s.1.length i))∧s.2.getD i.toNat 0≠kindR s.1.length f i)→Ret (chk (i64b (i+1)) (rec (i+1))) fun b=>(b=true↔WrongP s.2 s.1.length f):=fun hc=>by
   refine Ret_chk (i64b_t (by omega) (by omega)) (ih _ ⟨by omega,by omega,fun j a b=>?_⟩ (by omega))
   by_cases e:j=i
   ·subst e;exact hc
   ·exact i3 j a (by omega)
  obtain⟨s0,s1⟩:0≤sc s.1.length i∧sc s.1.length i<s.1.length:=by have:=h.ends.sc_lt i1 (by omega);exact⟨this.1,this.2.1⟩
  refine Ret_chk (inb_t (by omega) (by omega)) (Ret_dec (fun g=>?_) fun g=>nxt fun hh=>g hh.1)
  refine Ret_chk (inb_t (by omega) (by omega)) ?_
  rw[rings_behind_ok hn i1 (by omega),Option.bind_some]
  refine Ret_chk (inb_t (by omega) (by omega)) ?_
  rw[hfx,hfx]
  refine Ret_dec (fun g1=>?_) fun g1=>nxt fun hh=>g1 hh.2.1
  have hkk:rings_folded_kind fuel (((s.1,s.2),endR s.1),(r,i))=some (kindR s.1.length f i):=by rw[←hf];exact rings_kind_ok h i1 (by omega)
  rw[hkk,Option.bind_some]
  refine Ret_dec (fun g2=>Ret_some ⟨fun _=>⟨i,i1,by omega,g,g1,g2⟩,fun _=>rfl⟩) fun g2=>nxt fun hh=>g2 hh.2.2
 ·refine Ret_some ⟨fun hh=>(by cases hh),?_⟩
  rintro ⟨j,a,b,c⟩
  exact absurd c (i3 j a (by omega))
theorem rings_listed_ok {s:List Int×List Int} (h:RValid s) {p:List Int} (hl:p.length≤10000):Ret (rings_listed fuel (s,p)) fun e=>(Ord s.1.length p→e=0)∧(¬Ord s.1.length p→e=if p.length=s.1.length then 1 else 5):=by
 unfold rings_listed
 rw[show rings_Check fuel ((s,p).1.1,(s,p).1.2)=some 0 from rings_Check_ok h,Option.bind_some]
 simp only
 refine Ret_dec (fun g=>absurd rfl g) fun _=>Ret_dec (fun g=>Ret_some ⟨fun ho=>absurd ho.len (by omega),fun _=>by rw[if_neg (by omega)]⟩) fun g=>?_
 have hle:p.length=s.1.length:=by omega
 refine Ret_loop (Inv:=fun x:Int=>0≤x∧x≤p.length∧∀k:Nat,(k:Int)<x→(k:Int)∈p) (m:=fun x=>((p.length:Int)-x).toNat) ?_ _ _ ⟨by simp,by simp,fun k h=>by omega⟩ (by simp only[fuel];omega)
 rintro i rec ⟨i1,i2,i3⟩ ih
 refine Ret_dec (fun hlt=>?_) fun hge=>?_
 ·rw[contains_ok hl,Option.bind_some]
  by_cases hm:i∈p
  ·rw[decide_eq_true hm]
   refine Ret_chk (i64b_t (by omega) (by omega)) (ih _ ⟨by omega,by omega,fun k hk=>?_⟩ (by omega))
   by_cases e:(k:Int)=i
   ·rw[e];exact hm
   ·exact i3 k (by omega)
  ·rw[decide_eq_false hm]
   refine Ret_some ⟨fun ho=>absurd (ho.mem_iff.2 (mem_idL.2 ⟨i1,by omega⟩)) hm,fun _=>by rw[if_pos hle]⟩
 ·exact Ret_some ⟨fun _=>rfl,fun ho=>absurd (ord_of hle fun k hk=>i3 k (by omega)) ho⟩
theorem rings_listed_ord {s:List Int×List Int} (h:RValid s) {p:List Int} (hp:Ord s.1.length p):rings_listed fuel (s,p)=some 0:=by
 have hn:=h.le
 obtain⟨e,h1,h2,_⟩:=rings_listed_ok h (p:=p) (by rw[hp.len];omega)
 rw[h1,h2 hp]
end X
end Go.Vm
namespace Go.Vm
namespace X
open W Go.Proofs.St
theorem BetR_congr {n:Nat} {f g:Int→Int} (hfg:∀x:Int,0≤x→x<n→f x=g x) {i x:Int} (h0:0≤i) (h1:i<n) (x0:0≤x) (x1:x<n):BetR n f i x↔BetR n g i x:=by
 have hs:0≤sc n i∧sc n i<n:=by unfold sc;split<;>omega
 unfold BetR
 rw[hfg i h0 h1,hfg _ hs.1 hs.2,hfg x x0 x1]
theorem crossP_full {E:List Int} {n:Nat} {f g:Int→Int} (hfg:∀x:Int,0≤x→x<n→f x=g x) (hf:∀x:Int,0≤x→x<n→0≤g x):CrossP E n f↔CrossR E n g:=by
 have hs:∀i:Int,0≤i→i<n→0≤sc n i∧sc n i<n:=fun i a b=>by unfold sc;split<;>omega
 have hm:∀i:Int,0≤i→i<n→0≤min (f i) (f (sc n i)):=fun i a b=>by
  have:=hs i a b
  rw[hfg i a b,hfg _ this.1 this.2]
  have:=hf i a b
  have:=hf _ (hs i a b).1 (hs i a b).2
  omega
 have hb:∀i x:Int,0≤i→i<n→0≤x→x<n→(BetP n f i x↔BetR n g i x):=fun i x a b c d=>by
  unfold BetP
  rw[←BetR_congr hfg a b c d]
  exact⟨fun h=>h.2,fun h=>⟨hm i a b,h⟩⟩
 unfold CrossP CrossPA CrossR
 constructor
 ·rintro ⟨i,a,b,⟨j,c,d,e1,e2,e3⟩ | ⟨j,c,d,e1,e2,e3,e4,e5⟩⟩
  ·exact⟨i,a,b,.inl ⟨j,c,d,e1,e2,(hb i j a b c d).1 e3⟩⟩
  ·exact⟨i,a,b,.inr ⟨j,c,d,e1,e2,e3,by rw[←hb i j a b c d,←hb i _ a b (hs j c d).1 (hs j c d).2];exact e5⟩⟩
 ·rintro ⟨i,a,b,⟨j,c,d,e1,e2,e3⟩ | ⟨j,c,d,e1,e2,e3,e5⟩⟩
  ·exact⟨i,a,b,.inl ⟨j,c,d,e1,e2,(hb i j a b c d).2 e3⟩⟩
  ·exact⟨i,a,b,.inr ⟨j,c,d,e1,e2,e3,hm j c d,by rw[hb i j a b c d,hb i _ a b (hs j c d).1 (hs j c d).2];exact e5⟩⟩
def WrongR (K:List Int) (n:Nat) (f:Int→Int):Prop:=∃i:Int,0≤i∧i<n∧K.getD i.toNat 0≠3∧K.getD i.toNat 0≠kindR n f i
theorem kindR_congr {n:Nat} {f g:Int→Int} (hfg:∀x:Int,0≤x→x<n→f x=g x) {i:Int} (h0:0≤i) (h1:i<n):kindR n f i=kindR n g i:=by
 have hs:0≤sc n i∧sc n i<n:=by unfold sc;split<;>omega
 unfold kindR
 rw[hfg i h0 h1,hfg _ hs.1 hs.2]
theorem wrongP_full {K:List Int} {n:Nat} {f g:Int→Int} (hfg:∀x:Int,0≤x→x<n→f x=g x) (hf:∀x:Int,0≤x→x<n→0≤g x):WrongP K n f↔WrongR K n g:=by
 have hs:∀i:Int,0≤i→i<n→0≤sc n i∧sc n i<n:=fun i a b=>by unfold sc;split<;>omega
 constructor
 ·rintro ⟨i,a,b,c,_,d⟩
  exact⟨i,a,b,c,by rw[←kindR_congr hfg a b];exact d⟩
 ·rintro ⟨i,a,b,c,d⟩
  refine⟨i,a,b,c,?_,by rw[kindR_congr hfg a b];exact d⟩
  rw[hfg i a b,hfg _ (hs i a b).1 (hs i a b).2]
  have:=hf i a b
  have:=hf _ (hs i a b).1 (hs i a b).2
  omega
theorem rkF_nonneg (p:List Int) (x:Int):0≤rkF p x:=by unfold rkF;omega
def Ans (s:List Int×List Int) (p:List Int) (e:Int):Prop:=
 (CrossR (endR s.1) s.1.length (rkF p)→e=12)∧(¬CrossR (endR s.1) s.1.length (rkF p)→WrongR s.2 s.1.length (rkF p)→e=13)∧(¬CrossR (endR s.1) s.1.length (rkF p)→¬WrongR s.2 s.1.length (rkF p)→e=0)
theorem Ans.uniq {s:List Int×List Int} {p:List Int} {e e':Int} (h:Ans s p e) (h':Ans s p e'):e=e':=by
 by_cases c:CrossR (endR s.1) s.1.length (rkF p)
 ·rw[h.1 c,h'.1 c]
 ·by_cases w:WrongR s.2 s.1.length (rkF p)
  ·rw[h.2.1 c w,h'.2.1 c w]
  ·rw[h.2.2 c w,h'.2.2 c w]
theorem rings_Valid_ok {s:List Int×List Int} (h:RValid s) {p:List Int} (hp:Ord s.1.length p):Ret (rings_Valid fuel (s,p)) (Ans s p):=by
 have hn:=h.le
 have hl:=hp.len
 unfold rings_Valid
 rw[show rings_listed fuel (((s,p).1.1,(s,p).1.2),(s,p).2)=some 0 from rings_listed_ord h hp,Option.bind_some]
 refine Ret_dec (fun g=>absurd rfl g) fun _=>?_
 rw[show rings_of fuel ((s,p).1.1,(s,p).1.2)=some (s,endR s.1) from rings_of_ok h,Option.bind_some]
 refine Ret_bind (rings_rank_ok hp.in hp.nodup hn (by simp only;omega)) fun r hr=>?_
 have hfg:=hr.rk.eqF hp
 have hnn:∀x:Int,0≤x→x<s.1.length→0≤rkF p x:=fun x _ _=>rkF_nonneg p x
 refine Ret_bind (rings_crosses_ok h hr.len) fun b hb=>?_
 rw[crossP_full hfg hnn] at hb
 refine Ret_bif (fun e=>Ret_some ⟨fun _=>rfl,fun c=>absurd (hb.1 e) c,fun c=>absurd (hb.1 e) c⟩) fun e=>?_
 have nc:¬CrossR (endR s.1) s.1.length (rkF p):=fun c=>by rw[hb.2 c] at e;cases e
 refine Ret_bind (rings_wrong_ok h hr.len) fun b hb=>?_
 rw[wrongP_full hfg hnn] at hb
 refine Ret_bif (fun e=>Ret_some ⟨fun c=>absurd c nc,fun _ _=>rfl,fun _ w=>absurd (hb.1 e) w⟩) fun e=>Ret_some ⟨fun c=>absurd c nc,fun _ w=>?_,fun _ _=>rfl⟩
 rw[hb.2 w] at e
 cases e
theorem isOver_t {E:List Int} {u x:Int}:isOver E u x=true↔frm E x.toNat≤u∧u<too E x.toNat:=by
 unfold isOver
 rw[Bool.and_eq_true,decide_eq_true_eq,decide_eq_true_eq]
set_option maxHeartbeats 1000000 in
theorem law22_fits_ok {s:List Int×List Int} (h:RValid s) {p:List Int} (hp:Ord s.1.length p) (t:Int) (right:Bool):law22_fits fuel (s,(p,(t,right)))=some (fitsG [] (stkR (endR s.1) p s.1.length t (if right then t else t-1))):=by
 have hn:=h.le
 have hl:=hp.len
 have hel:=endR_len s.1
 have h2:=h.two
 apply Ret.eq
 generalize hu:(if right then t else t-1)=u
 generalize hR:fitsG [] (stkR (endR s.1) p s.1.length t u)=R
 unfold law22_fits
 rw[show law22_ends fuel ((s,(p,(t,right))).1.1,(s,(p,(t,right))).1.2)=some (endR s.1) from law22_ends_ok h,Option.bind_some]
 generalize hE:endR s.1=E at *
 generalize hN:s.1.length=n at *
 simp only
 have hE2:E.length=n+1:=hel
 refine Ret_loop (Inv:=fun x:List Int×Int=>0≤x.2∧x.2≤p.length∧(x.1.length:Int)≤x.2∧fitsG x.1 (((p.drop x.2.toNat).filter (isOver E u)).map (labR E n t))=R) (m:=fun x=>((p.length:Int)-x.2).toNat) ?_ _ _ ⟨by simp,by simp,by simp,by simpa[stkR,overL] using hR⟩ (by simp only[fuel];omega)
 rintro ⟨o,i⟩ rec ⟨i1,i2,i3,i4⟩ ih
 simp only at i1 i2 i3 i4 ⊢
 refine Ret_dec (fun hlt=>?_) fun hge=>?_
 ·have hd:p.drop i.toNat=p.getD i.toNat 0::p.drop (i+1).toNat:=by
   rw[show(i+1).toNat=i.toNat+1 by omega,List.drop_eq_getElem_cons (by omega),List.getD,List.getElem?_eq_getElem (by omega)];rfl
  have hq:=hp.in _ (getD_mem (L:=p) (i:=i.toNat) (by omega))
  rw[hd] at i4
  have hin:=inb_t (i:=i) (n:=p.length) (by omega) (by omega)
  generalize p.getD i.toNat 0=q at hq i4 ⊢
  have e1:(q+1).toNat=q.toNat+1:=by omega
  have q1:inb q E.length=true:=inb_t (by omega) (by omega)
  have q2:inb (q+1) E.length=true:=inb_t (by omega) (by omega)
  have q3:i64b (q+1)=true:=i64b_t (by omega) (by omega)
  have q4:i64b (i+1)=true:=i64b_t (by omega) (by omega)
  rw[e1]
  simp only[hin,q1,q2,q3,q4,chk_t]
  have nxt:∀o':List Int,(o'.length:Int)≤i+1→fitsG o' (((p.drop (i+1).toNat).filter (isOver E u)).map (labR E n t))=R→Ret (rec (o',i+1)) fun x=>x=R:=fun o' h1 h2=>
   ih _ ⟨by simp only;omega,by simp only;omega,h1,h2⟩ (by simp only;omega)
  have skip:isOver E u q=false→Ret (rec (o,i+1)) fun x=>x=R:=fun hv=>by
   rw[List.filter_cons,if_neg (by rw[hv];simp)] at i4
   exact nxt o (by omega) i4
  have lp:∀g:Int,0≤g→o.getLast?≠some g→fitsG o (g::(((p.drop (i+1).toNat).filter (isOver E u)).map (labR E n t)))=R→Ret (loopF (fun rec5 (x5:Int)=>bif(decide (x5< ((o.length:Nat):Int))) then(chk (inb x5 o.length) (bif(decide ((o.getD x5.toNat 0)=g)) then(some false) else(chk (i64b (x5+1)) (rec5 (x5+1))))) else(chk (lenOk (o.length+1)) (rec ((o++[g]),(i+1))))) fuel 0) fun x=>x=R:=fun g hg hlast hfit=>by
   unfold fitsG at hfit
   rw[if_neg (by omega),if_neg (by omega)] at hfit
   refine Ret_loop (Inv:=fun x:Int=>0≤x∧x≤o.length∧∀k:Nat,(k:Int)<x→o.getD k 0≠g) (m:=fun x=>((o.length:Int)-x).toNat) ?_ _ _ ⟨by simp,by simp,fun k h=>by omega⟩ (by simp only[fuel];omega)
   rintro k rec5 ⟨k1,k2,k3⟩ ih5
   refine Ret_dec (fun hlt=>?_) fun hge=>?_
   ·refine Ret_chk (inb_t (by omega) (by omega)) (Ret_dec (fun e=>?_) fun e=>?_)
    ·have hm:g∈o:=by rw[←e];exact getD_mem (by omega)
     rw[if_neg (fun h=>h hm),if_neg hlast] at hfit
     exact Ret_some hfit
    ·refine Ret_chk (i64b_t (by omega) (by omega)) (ih5 _ ⟨by omega,by omega,fun k' hk'=>?_⟩ (by omega))
     by_cases e':(k':Int)=k
     ·rw[show k'=k.toNat by omega];exact e
     ·exact k3 k' (by omega)
   ·have hm:g∉o:=not_mem_getD fun k' hk'=>k3 k' (by omega)
    rw[if_pos hm] at hfit
    exact Ret_chk (lenOk_t (by omega)) (nxt _ (by simp;omega) hfit)
  have ov:isOver E u q=true→fitsG o (labR E n t q::(((p.drop (i+1).toNat).filter (isOver E u)).map (labR E n t)))=R:=fun hv=>by
   rw[List.filter_cons,if_pos hv] at i4
   exact i4
  cases right
  all_goals
   simp only[cond_true,cond_false,Bool.not_true,Bool.not_false]
   simp at hu
   refine Ret_dec (fun g1=>skip ?_) fun g1=>Ret_dec (fun g2=>skip ?_) fun g2=>?_
   ·exact Bool.eq_false_iff.2 fun h=>absurd (isOver_t.1 h) (by unfold frm too;omega)
   ·exact Bool.eq_false_iff.2 fun h=>absurd (isOver_t.1 h) (by unfold frm too;omega)
   have hov:=ov (isOver_t.2 (by unfold frm too;omega))
   refine Ret_jn (fun x=>x=if E.getD q.toNat 0=t then(if q=0 then(n:Int)-1 else q-1) else -1) (fun x hx=>?_) fun j hj=>?_
   ·refine Ret_jn (fun y=>y=labR E n t q) (fun y hy=>?_) fun j hj=>?_
    ·rw[←hy] at hov
     refine Ret_dec (fun g3=>?_) fun g3=>?_
     ·have:y= -1:=by
       have:=labR_ge (E:=E) (t:=t) hq.1 hq.2
       omega
      subst this
      unfold fitsG at hov
      rw[if_neg (by omega),if_pos rfl] at hov
      refine Ret_dec (fun g=>?_) fun g=>?_
      ·rw[if_neg (fun e=>by rw[e] at g;simp at g)] at hov
       exact Ret_some hov
      ·have eo:o=[]:=List.eq_nil_of_length_eq_zero (by omega)
       rw[if_pos eo] at hov
       exact nxt o (by omega) hov
     ·refine Ret_dec (fun g=>?_) fun g=>?_
      ·have e3:(((o.length:Nat):Int)-1).toNat=o.length-1:=by omega
       refine Ret_chk (i64b_t (by omega) (by omega)) (Ret_chk (inb_t (by omega) (by omega)) ?_)
       rw[e3]
       have el:o.getLast?=some (o.getD (o.length-1) 0):=by
        rw[List.getLast?_eq_getElem?,List.getD,List.getElem?_eq_getElem (by omega)];rfl
       refine Ret_dec (fun g4=>?_) fun g4=>lp y (by omega) (by rw[el];simpa using g4) hov
       unfold fitsG at hov
       have hm:y∈o:=by rw[←g4];exact getD_mem (by omega)
       rw[if_neg (by omega),if_neg (by omega),if_neg (fun h=>h hm),if_pos (by rw[el,g4])] at hov
       refine Ret_chk (i64b_t (by omega) (by omega)) (Ret_chk (by simp[bnb];omega) (Ret_chk rfl ?_))
       have et:o.take (o.length-1)=o.dropLast:=by rw[List.dropLast_eq_take]
       rw[et]
       exact nxt _ (by rw[List.length_dropLast];omega) hov
      ·refine lp y (by omega) ?_ hov
       rw[List.eq_nil_of_length_eq_zero (show o.length=0 by omega)]
       simp
    ·refine Ret_dec (fun g=>hj _ ?_) fun g=>hj _ ?_
     ·unfold labR;rw[if_pos g]
     ·unfold labR;rw[if_neg g];exact hx
   ·refine Ret_dec (fun g=>?_) fun g=>hj _ (by rw[if_neg g])
    refine Ret_chk (i64b_t (by omega) (by omega)) (Ret_chk (i64b_t (by omega) (by omega)) (Ret_chk (by simp only[Bool.and_eq_true,decide_eq_true_eq];omega) (hj _ ?_)))
    rw[if_pos g]
    split
    ·rename_i e0
     rw[e0,show(0:Int)+ (n:Int)-1=(n:Int)-1 by omega]
     exact Int.emod_eq_of_lt (by omega) (by omega)
    ·rw[show q+ (n:Int)-1=(q-1)+n by omega,Int.add_emod_right]
     exact Int.emod_eq_of_lt (by omega) (by omega)
 ·refine Ret_some ?_
  rw[←i4,show i.toNat=p.length by omega,List.drop_length];rfl
end X
end Go.Vm
namespace Go.Vm
namespace X
open W Go.Proofs.St
theorem lives22:law22_lives fuel ()=some true:=by kernel_rfl
theorem law22_check_ok {s:List Int×List Int} (h:RValid s) {p:List Int} (hp:Ord s.1.length p):Ret (law22_check fuel (s,p)) (Ans s p):=by
 have hn:=h.le
 have hl:=hp.len
 have hel:=endR_len s.1
 have h2:=h.two
 have hk:=h.kl
 have hE:=h.ends
 have pw:=rkF_pw hp.nodup
 unfold law22_check
 rw[show law22_ends fuel ((s,p).1.1,(s,p).1.2)=some (endR s.1) from law22_ends_ok h,Option.bind_some]
 simp only
 refine Ret_loop (Inv:=fun x:Int=>0≤x∧x≤(endR s.1).length∧∀i:Nat,(i:Int)<x→∀u,(u=(endR s.1).getD i 0-1∨u=(endR s.1).getD i 0)→¬BadW (stkR (endR s.1) p s.1.length ((endR s.1).getD i 0) u)) (m:=fun x=>(((endR s.1).length:Int)-x).toNat) ?_ _ _ ⟨by simp,by simp,fun i a=>by omega⟩ (by simp only[fuel];omega)
 rintro i rec ⟨i1,i2,i3⟩ ih
 refine Ret_dec (fun hlt=>?_) fun hge=>?_
 ·have hin:inb i (endR s.1).length=true:=inb_t (by omega) (by omega)
  have fnd:∀u,(u=(endR s.1).getD i.toNat 0-1∨u=(endR s.1).getD i.toNat 0)→fitsG [] (stkR (endR s.1) p s.1.length ((endR s.1).getD i.toNat 0) u)=false→Ret (some 12) (Ans s p):=fun u hu hf=>by
   have hb:BadW (stkR (endR s.1) p s.1.length ((endR s.1).getD i.toNat 0) u):=by
    apply Classical.byContradiction
    intro hb
    rw[(fitsR_iff hE hp hu).2 hb] at hf
    cases hf
   have hc:=crossR_of_bad hE hp hu pw hb
   exact Ret_some ⟨fun _=>rfl,fun c=>absurd hc c,fun c=>absurd hc c⟩
  have hF:∀rt:Bool,law22_fits fuel ((s.1,s.2),(p,((endR s.1).getD i.toNat 0,rt)))=some (fitsG [] (stkR (endR s.1) p s.1.length ((endR s.1).getD i.toNat 0) (if rt then(endR s.1).getD i.toNat 0 else(endR s.1).getD i.toNat 0-1))):=fun rt=>law22_fits_ok h hp _ rt
  refine Ret_chk hin ?_
  rw[hF true,Option.bind_some,if_pos rfl]
  refine Ret_bif (fun e=>fnd _ (.inr rfl) (by simpa using e)) fun e=>?_
  refine Ret_chk hin ?_
  rw[hF false,Option.bind_some,if_neg (by simp)]
  refine Ret_bif (fun e=>fnd _ (.inl rfl) (by simpa using e)) fun e'=>?_
  refine Ret_chk (i64b_t (by omega) (by omega)) (ih _ ⟨by omega,by omega,fun j hj u hu=>?_⟩ (by omega))
  by_cases ej:(j:Int)=i
  ·have:j=i.toNat:=by omega
   subst this
   rw[←fitsR_iff hE hp hu]
   rcases hu with rfl | rfl
   ·simpa using e'
   ·simpa using e
  ·exact i3 j (by omega) u hu
 ·have nc:¬CrossR (endR s.1) s.1.length (rkF p):=fun hc=>by
   obtain⟨j,hj,u,hu,hb⟩:=badR_of_cross hE hp pw hc
   exact i3 (j+1) (by omega) u hu hb
  refine Ret_chk (by simp only[Bool.and_eq_true,decide_eq_true_eq];omega) ?_
  refine Ret_loop (Inv:=fun x:Int×(List Int×Option Nat)=>0≤x.1∧x.1≤s.1.length∧x.2.1.length=s.1.length∧∀k:Nat,k<x.1.toNat→x.2.1.getD (p.getD k 0).toNat 0=k) (m:=fun x=>((s.1.length:Int)-x.1).toNat) ?_ _ _ ⟨by simp,by simp,by simp,by simp⟩ (by simp only[fuel];omega)
  rintro ⟨i,at_,cp⟩ rec ⟨i1,i2,i3,i4⟩ ih
  simp only at i1 i2 i3 i4 ⊢
  refine Ret_dec (fun hlt=>?_) fun hge=>?_
  ·have hx:=hp.in _ (getD_mem (L:=p) (i:=i.toNat) (by omega))
   have:=set_rk hp.nodup hp.in (by omega) (by omega) i4
   rw[show((i.toNat:Nat):Int)=i by omega,show i.toNat+1=(i+1).toNat by omega] at this
   exact Ret_chk (inb_t (by omega) (by omega)) (Ret_chk (inb_t (by omega) (by omega)) (Ret_chk (i64b_t (by omega) (by omega)) (ih _ ⟨by simp only;omega,by simp only;omega,by simp only[List.length_set];exact i3,this⟩ (by simp only;omega))))
  ·have hrk:Rk p at_:=fun k hk=>i4 k (by omega)
   have hfg:=hrk.eqF hp
   refine Ret_loop (Inv:=fun x:Int=>0≤x∧x≤s.1.length∧∀j:Int,0≤j→j<x→¬(s.2.getD j.toNat 0≠3∧s.2.getD j.toNat 0≠kindR s.1.length (rkF p) j)) (m:=fun x=>((s.1.length:Int)-x).toNat) ?_ _ _ ⟨by simp,by simp,fun i a b=>by omega⟩ (by simp only[fuel];omega)
   rintro i rec ⟨i1,i2,i3⟩ ih
   refine Ret_dec (fun hlt=>?_) fun hge=>?_
   ·obtain⟨s0,s1,s2,s3⟩:=hE.sc_lt i1 hlt
    have hsc:(i+1)% ((s.1.length:Nat):Int)=sc s.1.length i:=by
     unfold sc
     split
     ·exact Int.emod_eq_of_lt (by omega) (by omega)
     ·rw[show i+1=(s.1.length:Int) by omega,Int.emod_self]
    have hki:=h.kinds _ (getD_mem (L:=s.2) (i:=i.toNat) (by omega))
    have hik:inb i s.2.length=true:=inb_t (by omega) (by omega)
    have hne:rkF p i≠rkF p (sc s.1.length i):=fun e=>s2 (rkF_inj (hp.memI i1 hlt) (hp.memI s0 s1) e).symm
    have nxt:¬(s.2.getD i.toNat 0≠3∧s.2.getD i.toNat 0≠kindR s.1.length (rkF p) i)→Ret (chk (i64b (i+1)) (rec (i+1))) (Ans s p):=fun hc=>by
     refine Ret_chk (i64b_t (by omega) (by omega)) (ih _ ⟨by omega,by omega,fun j a b=>?_⟩ (by omega))
     by_cases e:j=i
     ·subst e;exact hc
     ·exact i3 j a (by omega)
    have bad:s.2.getD i.toNat 0≠3→s.2.getD i.toNat 0≠kindR s.1.length (rkF p) i→Ret (some 13) (Ans s p):=fun a b=>Ret_some ⟨fun c=>absurd c nc,fun _ _=>rfl,fun _ w=>absurd ⟨i,i1,hlt,a,b⟩ w⟩
    refine Ret_chk (i64b_t (by omega) (by omega)) (Ret_chk (by simp only[Bool.and_eq_true,decide_eq_true_eq];omega) (Ret_chk (by simp only[Bool.and_eq_true,decide_eq_true_eq];omega) ?_))
    rw[hsc]
    refine Ret_jn (fun x:Int×Int=>(0≤x.1∧x.1<s.1.length)∧(0≤x.2∧x.2<s.1.length)∧rkF p x.1≠rkF p x.2∧kindR s.1.length (rkF p) i=if rkF p x.2<rkF p x.1 then 2 else 1) (fun x ⟨x1,x2,x3,x4⟩=>?_) fun j hj=>?_
    ·have o1:inb x.1 at_.length=true:=inb_t x1.1 (by omega)
     have o2:inb x.2 at_.length=true:=inb_t x2.1 (by omega)
     simp only[hik,o1,o2,chk_t]
     rw[hfg _ x1.1 x1.2,hfg _ x2.1 x2.2]
     refine Ret_dec (fun k2=>?_) fun k2=>Ret_dec (fun k1=>?_) fun k1=>nxt fun hh=>hh.1 (by omega)
     ·refine Ret_dec (fun g=>bad (by omega) (by rw[x4,if_neg (by omega)];omega)) fun g=>Ret_dec (fun k1=>absurd k1 (by omega)) fun k1=>nxt fun hh=>hh.2 (by rw[x4,if_pos (by omega)];exact k2)
     ·refine Ret_dec (fun g=>bad (by omega) (by rw[x4,if_pos (by omega)];omega)) fun g=>nxt fun hh=>hh.2 (by rw[x4,if_neg (by omega)];exact k1)
    ·refine Ret_dec (fun g=>hj _ ⟨⟨s0,s1⟩,⟨i1,hlt⟩,fun e=>hne e.symm,?_⟩) fun g=>hj _ ⟨⟨i1,hlt⟩,⟨s0,s1⟩,hne,?_⟩
     ·unfold kindR;rw[if_pos g]
     ·unfold kindR;rw[if_neg g]
   ·refine Ret_some ⟨fun c=>absurd c nc,fun _ w=>?_,fun _ _=>rfl⟩
    obtain⟨j,a,b,c⟩:=w
    exact absurd c (i3 j a (by omega))
end X
end Go.Vm
namespace Go.Vm
namespace X
open W
theorem ext_getD {L M:List Int} (hl:L.length=M.length) (h:∀i:Nat,i<L.length→L.getD i 0=M.getD i 0):L=M:=by
 apply List.ext_getElem hl
 intro i h1 h2
 have:=h i h1
 simpa[List.getD,List.getElem?_eq_getElem h1,List.getElem?_eq_getElem h2] using this
def ovl (E:List Int) (i k:Nat):Bool:=decide (frm E i<too E k)&&decide (frm E k<too E i)
def SameP (E:List Int) (n:Nat) (p q:List Int):Prop:=∀i k:Int,0≤k→k<i→i<n→ovl E i.toNat k.toNat=true→(rkF p i<rkF p k↔rkF q i<rkF q k)
theorem ovl_symm {E:List Int} {i k:Nat}:ovl E i k=ovl E k i:=by unfold ovl;rw[Bool.and_comm]
theorem SameP.all {E:List Int} {n:Nat} {p q:List Int} (hp:Ord n p) (hq:Ord n q) (h:SameP E n p q) {i k:Int} (h1:0≤i) (h2:i<n) (h3:0≤k) (h4:k<n) (ho:ovl E i.toNat k.toNat=true):rkF p i<rkF p k↔rkF q i<rkF q k:=by
 rcases Int.lt_trichotomy i k with e | e | e
 ·have:=h k i h1 e h4 (by rw[ovl_symm];exact ho)
  have a:rkF p i≠rkF p k:=fun g=>by have:=rkF_inj (hp.memI h1 h2) (hp.memI h3 h4) g;omega
  have b:rkF q i≠rkF q k:=fun g=>by have:=rkF_inj (hq.memI h1 h2) (hq.memI h3 h4) g;omega
  omega
 ·subst e;omega
 ·exact h i k h3 e h2 ho
theorem SameP.refl {E:List Int} {n:Nat} {p:List Int}:SameP E n p p:=fun _ _ _ _ _ _=>Iff.rfl
theorem flat_len {n:Nat} {f:List Int→List (List Int)}:∀ {L:List (List Int)},(∀l∈L,(f l).length=n)→(L.flatMap f).length=L.length*n
 | [],_=>by simp
 | a::L,h=>by
   rw[List.flatMap_cons,List.length_append,flat_len fun l hl=>h l (List.mem_cons_of_mem _ hl),h a List.mem_cons_self,List.length_cons,Nat.add_mul]
   omega
def LexLt (a b:List Int):Prop:=∃m:Nat,m<a.length∧m<b.length∧(∀k:Nat,k<m→a.getD k 0=b.getD k 0)∧a.getD m 0<b.getD m 0
theorem LexLt.trans {a b c:List Int} (h:LexLt a b) (h':LexLt b c):LexLt a c:=by
 obtain⟨m,a1,a2,a3,a4⟩:=h
 obtain⟨k,b1,b2,b3,b4⟩:=h'
 rcases Nat.lt_trichotomy m k with e | e | e
 ·exact⟨m,a1,by omega,fun j hj=>(a3 j hj).trans (b3 j (by omega)),by rw[←b3 m e];exact a4⟩
 ·subst e;exact⟨m,a1,b2,fun j hj=>(a3 j hj).trans (b3 j hj),by omega⟩
 ·exact⟨k,by omega,b2,fun j hj=>(a3 j (by omega)).trans (b3 j hj),by rw[a3 k e];exact b4⟩
theorem eq_of_not_lt {a b:List Int} (hl:a.length=b.length) (h1:¬LexLt a b) (h2:¬LexLt b a):a=b:=by
 have key:∀m:Nat,m≤a.length→∀k:Nat,k<m→a.getD k 0=b.getD k 0:=by
  intro m
  induction m with
  | zero=>intro _ k hk;omega
  | succ m ih=>
    intro hm k hk
    by_cases e:k=m
    ·subst e
     rcases Int.lt_trichotomy (a.getD k 0) (b.getD k 0) with g | g | g
     ·exact absurd ⟨k,by omega,by omega,ih (by omega),g⟩ h1
     ·exact g
     ·exact absurd ⟨k,by omega,by omega,fun j hj=>(ih (by omega) j hj).symm,g⟩ h2
    ·exact ih (by omega) k (by omega)
 exact ext_getD hl fun i hi=>key a.length (Nat.le_refl _) i hi
def Free (E:List Int) (n:Nat) (p o:List Int) (i:Int):Prop:=i∉o∧∀k:Int,0≤k→k<n→k∈o∨rkF p i≤rkF p k∨ovl E i.toNat k.toNat=false
structure Greedy (E:List Int) (n:Nat) (p L:List Int):Prop where
 nd:L.Nodup
 rng:In n L
 free:∀m:Nat,m<L.length→Free E n p (L.take m) (L.getD m 0)
 least:∀m:Nat,m<L.length→∀j:Int,0≤j→j<n→Free E n p (L.take m) j→L.getD m 0≤j
theorem free_ex {E:List Int} {n:Nat} {p o:List Int} (hp:Ord n p) (ho:o.length<n):∃j:Int,0≤j∧j<n∧Free E n p o j:=by
 have hl:=hp.len
 have hex:∃i:Nat,i<p.length∧p.getD i 0∉o:=Classical.byContradiction fun hc=>by
  obtain⟨q,hq⟩:=perm_of_sub (l:=p) (p:=o) hp.nodup fun x hx=>Classical.byContradiction fun hx'=>by
   obtain⟨a,b,c⟩:=at_rkF hx
   exact hc ⟨_,a,by rw[b];exact hx'⟩
  have:=hq.length_eq
  rw[List.length_append] at this
  omega
 obtain⟨i,hi,hni,hmin⟩:∃i:Nat,i<p.length∧p.getD i 0∉o∧∀k:Nat,k<i→p.getD k 0∈o:=by
  obtain⟨i,h1,h2⟩:=hex
  induction i using Nat.strongRecOn with
  | _ i ih=>
    by_cases h:∀k:Nat,k<i→p.getD k 0∈o
    ·exact⟨i,h1,h2,h⟩
    ·have:∃k,k<i∧p.getD k 0∉o:=Classical.byContradiction fun hc=>h fun k hk=>Classical.byContradiction fun g=>hc ⟨k,hk,g⟩
     obtain⟨k,a,b⟩:=this
     exact ih k a (by omega) b
 have hx:=hp.in _ (getD_mem hi)
 refine⟨p.getD i 0,hx.1,hx.2,hni,fun k h0 h1=>?_⟩
 obtain⟨a,b,c⟩:=at_rkF (hp.memI h0 h1)
 rw[rkF_at hp.nodup hi]
 by_cases g:(rkF p k).toNat<i
 ·left;rw[←b];exact hmin _ g
 ·right;left;omega
theorem Greedy.ord {E:List Int} {n:Nat} {p L:List Int} (h:Greedy E n p L) (hl:L.length=n):Ord n L:=by
 obtain⟨q,hq⟩:=perm_of_sub (l:=L) (p:=idL n) h.nd fun x hx=>mem_idL.2 (h.rng x hx)
 have:=hq.length_eq
 rw[List.length_append,idL_len] at this
 have:q=[]:=List.eq_nil_of_length_eq_zero (by omega)
 subst this
 rw[List.append_nil] at hq
 exact hq.symm
theorem take_rk {L:List Int} {n:Nat} (h:Ord n L) {m:Nat} (hm:m≤L.length) {x:Int}:x∈L.take m↔x∈L∧rkF L x<m:=by
 constructor
 ·intro hx
  obtain⟨i,hi,e⟩:=List.mem_iff_getElem.1 hx
  rw[List.length_take] at hi
  have hx':=List.mem_of_mem_take hx
  refine⟨hx',?_⟩
  rw[List.getElem_take] at e
  have:=rkF_at h.nodup (i:=i) (by omega)
  rw[List.getD,List.getElem?_eq_getElem (by omega),Option.getD_some,e] at this
  omega
 ·rintro ⟨h1,h2⟩
  obtain⟨a,b,c⟩:=at_rkF h1
  refine List.mem_iff_getElem.2 ⟨(rkF L x).toNat,by rw[List.length_take];omega,?_⟩
  rw[List.getElem_take]
  rw[List.getD,List.getElem?_eq_getElem a,Option.getD_some] at b
  exact b
theorem Greedy.same {E:List Int} {n:Nat} {p L:List Int} (h:Greedy E n p L) (hp:Ord n p) (hl:L.length=n):SameP E n p L:=by
 have hL:=h.ord hl
 have key:∀i k:Int,0≤i→i<n→0≤k→k<n→ovl E i.toNat k.toNat=true→rkF p k<rkF p i→rkF L k<rkF L i:=fun i k a b c d ho hlt=>by
  obtain⟨q1,q2,q3⟩:=at_rkF (hL.memI a b)
  have hf:=h.free _ q1
  rw[q2] at hf
  rcases hf.2 k c d with g | g | g
  ·have:=(take_rk hL (by omega)).1 g
   omega
  ·omega
  ·rw[ho] at g;cases g
 intro i k h1 h2 h3 ho
 constructor
 ·intro hlt;exact key k i h1 (by omega) (by omega) h3 (by rw[ovl_symm];exact ho) hlt
 ·intro hlt
  have hne:rkF p i≠rkF p k:=fun e=>by
   have:=rkF_inj (hp.memI (by omega) h3) (hp.memI h1 (by omega)) e
   omega
  rcases Int.lt_or_le (rkF p i) (rkF p k) with g | g
  ·exact g
  ·have:=key i k (by omega) h3 h1 (by omega) ho (by omega)
   omega
theorem Greedy.first {E:List Int} {n:Nat} {p L q:List Int} (h:Greedy E n p L) (hp:Ord n p) (hl:L.length=n) (hq:Ord n q) (hs:SameP E n p q):¬LexLt q L:=by
 rintro ⟨m,a1,a2,a3,a4⟩
 have et:q.take m=L.take m:=ext_getD (by rw[List.length_take,List.length_take];omega) fun i hi=>by
  rw[List.length_take] at hi
  have:=a3 i (by omega)
  rw[List.getD,List.getD] at this ⊢
  rw[List.getElem?_take,List.getElem?_take,if_pos (by omega),if_pos (by omega)]
  exact this
 have hx:=hq.in _ (getD_mem (L:=q) (i:=m) a1)
 have hr:=rkF_at hq.nodup a1
 have:=h.least m a2 (q.getD m 0) hx.1 hx.2 ⟨fun g=>?_,fun k h0 h1=>?_⟩
 ·omega
 ·rw[←et] at g
  have:=(take_rk hq (by omega)).1 g
  omega
 ·cases ho:ovl E (q.getD m 0).toNat k.toNat with
  | false=>exact .inr (.inr rfl)
  | true=>
    have:=hs.all hp hq h0 h1 hx.1 hx.2 (by rw[ovl_symm];exact ho)
    by_cases g:rkF p k<rkF p (q.getD m 0)
    ·left
     rw[←et]
     exact(take_rk hq (by omega)).2 ⟨hq.memI h0 h1,by have:=this.1 g;omega⟩
    ·right;left;omega
theorem Greedy.snoc {E:List Int} {n:Nat} {p o:List Int} {i:Int} (h:Greedy E n p o) (h0:0≤i) (h1:i<n) (hf:Free E n p o i) (hm:∀j:Int,0≤j→j<n→Free E n p o j→i≤j):Greedy E n p (o++[i]):=by
 have tk:∀m:Nat,m< (o++[i]).length→(m<o.length∧(o++[i]).take m=o.take m∧(o++[i]).getD m 0=o.getD m 0)∨((o++[i]).take m=o∧(o++[i]).getD m 0=i):=fun m hm=>by
  rw[List.length_append,List.length_singleton] at hm
  by_cases e:m<o.length
  ·left
   refine⟨e,List.take_append_of_le_length (by omega),?_⟩
   rw[List.getD,List.getD,List.getElem?_append_left e]
  ·right
   have:m=o.length:=by omega
   subst this
   refine⟨by simp,by simp[List.getD]⟩
 refine⟨?_,?_,fun m hm'=>?_,fun m hm' j a b c=>?_⟩
 ·rw[List.nodup_append]
  refine⟨h.nd,by simp,fun a ha b hb e=>?_⟩
  simp at hb
  exact hf.1 (by rw[←hb,←e];exact ha)
 ·intro x hx
  rcases List.mem_append.1 hx with g | g
  ·exact h.rng x g
  ·simp at g;subst g;exact⟨h0,h1⟩
 ·rcases tk m hm' with⟨e1,e2,e3⟩ | ⟨e2,e3⟩
  ·rw[e2,e3];exact h.free m e1
  ·rw[e2,e3];exact hf
 ·rcases tk m hm' with⟨e1,e2,e3⟩ | ⟨e2,e3⟩
  ·rw[e2] at c;rw[e3];exact h.least m e1 j a b c
  ·rw[e2] at c;rw[e3];exact hm j a b c
end X
end Go.Vm
namespace Go.Vm
namespace X
open W Go.Proofs.St
def shf (f x:Int):Int:=if f≤x then x+1 else x
def ordX:Nat→List (List Int)
 | 0=>[[]]
 | n+1=>(List.range (n+1)).flatMap fun(f:Nat)=>(ordX n).map fun l=>(f:Int)::l.map (shf f)
theorem ordX_mem:∀ {n:Nat} {l:List Int},Ord n l→l∈ordX n
 | 0,l,h=>by
   rw[List.eq_nil_of_length_eq_zero h.len];simp[ordX]
 | n+1,[],h=>by have:=h.len;simp at this
 | n+1,f::t,h=>by
   have hf:=h.in f List.mem_cons_self
   have hl:=h.len
   have hnd:=h.nodup
   rw[List.nodup_cons] at hnd
   have ht:∀x∈t,x≠f:=fun x hx e=>hnd.1 (e▸hx)
   have ho:Ord n (t.map fun x=>if f<x then x-1 else x):=by
    refine ord_of (by rw[List.length_map];simpa using hl) fun i hi=>?_
    by_cases e:(i:Int)<f
    ·have:=h.mem (i:=i) (by omega)
     rcases List.mem_cons.1 this with g | g
     ·omega
     ·exact List.mem_map.2 ⟨i,g,by rw[if_neg (by omega)]⟩
    ·have:=h.mem (i:=i+1) (by omega)
     rcases List.mem_cons.1 this with g | g
     ·omega
     ·exact List.mem_map.2 ⟨(i+1:Nat),g,by rw[if_pos (by omega)];omega⟩
   refine List.mem_flatMap.2 ⟨f.toNat,List.mem_range.2 (by omega),List.mem_map.2 ⟨_,ordX_mem ho,?_⟩⟩
   rw[show((f.toNat:Nat):Int)=f by omega,List.map_map]
   congr 1
   conv=>rhs;rw[←List.map_id t]
   refine List.map_congr_left fun x hx=>?_
   have:=ht x hx
   simp only[Function.comp,id,shf]
   split<;>split<;>omega
theorem ordX_len (n:Nat):(ordX (n+1)).length=(n+1)* (ordX n).length:=by
 have:∀k,((List.range k).flatMap fun(f:Nat)=>(ordX n).map fun l=>(f:Int)::l.map (shf f)).length=k* (ordX n).length:=by
  intro k
  induction k with
  | zero=>simp
  | succ k ih=>rw[List.range_succ,List.flatMap_append,List.length_append,ih,Nat.succ_mul];simp
 exact this (n+1)
theorem ordX_le {n:Nat} (h:n≤6):(ordX n).length≤720:=by
 have h0:(ordX 0).length=1:=rfl
 have h1:=ordX_len 0;have h2:=ordX_len 1;have h3:=ordX_len 2;have h4:=ordX_len 3;have h5:=ordX_len 4;have h6:=ordX_len 5
 simp only[h0,Nat.reduceAdd] at h1
 rw[h1] at h2;simp only[Nat.reduceAdd] at h2
 rw[h2] at h3;simp only[Nat.reduceAdd] at h3
 rw[h3] at h4;simp only[Nat.reduceAdd] at h4
 rw[h4] at h5;simp only[Nat.reduceAdd] at h5
 rw[h5] at h6;simp only[Nat.reduceAdd] at h6
 rcases(by omega:n=0∨n=1∨n=2∨n=3∨n=4∨n=5∨n=6) with rfl | rfl | rfl | rfl | rfl | rfl | rfl<;>omega
end X
end Go.Vm
namespace Go.Vm
namespace X
open W Go.Proofs.St
theorem rings_folded_least_ok {s:List Int×List Int} (h:RValid s) {p:List Int} (hp:Ord s.1.length p):Ret (rings_folded_least fuel ((s,endR s.1),p)) fun r=>r.length=s.1.length∧Greedy (endR s.1) s.1.length p r:=by
 classical
 have hn:=h.le
 have hl:=hp.len
 have hel:=endR_len s.1
 unfold rings_folded_least
 refine Ret_bind (rings_rank_ok (p:=p) hp.in hp.nodup hn (by omega)) fun r hR=>?_
 have hr:=hR.rk
 have hr2:=hR.len
 refine Ret_chk (by simp;omega) ?_
 have hrx:=hr.eqF hp
 refine Ret_loop (Inv:=fun x:((List Int×Nat)×List Bool)=>x.1.1.length≤s.1.length∧x.1.2=p.length∧x.2.length=32∧(∀i:Nat,i<s.1.length→x.2.getD i false=decide ((i:Int)∈x.1.1))∧Greedy (endR s.1) s.1.length p x.1.1) (m:=fun x=>s.1.length-x.1.1.length) ?_ _ _ ⟨by simp,rfl,rfl,fun i hi=>?_,⟨List.nodup_nil,fun x hx=>by simp at hx,fun m hm=>by simp at hm,fun m hm=>by simp at hm⟩⟩ (by simp only[fuel];omega)
 ·rintro ⟨⟨o,cp⟩,tk⟩ rec ⟨i1,i2,i3,i4,i5⟩ ih
  simp only at i1 i2 i3 i4 i5 ⊢
  subst i2
  refine Ret_dec (fun hlt=>?_) fun hge=>Ret_chk (by simp[capIs];omega) (Ret_some ⟨by omega,i5⟩)
  obtain⟨j0,f1,f2,f3⟩:=free_ex (E:=endR s.1) hp (o:=o) (by omega)
  refine Ret_loop (Inv:=fun x:((List Int×Nat)×(Int×List Bool))=>x.1=(o,p.length)∧x.2.2=tk∧0≤x.2.1∧x.2.1≤p.length∧∀j:Int,0≤j→j<x.2.1→¬Free (endR s.1) s.1.length p o j) (m:=fun x=>((p.length:Int)-x.2.1).toNat) ?_ _ _ ⟨rfl,rfl,by simp,by simp,fun j a b=>by simp at b;omega⟩ (by simp only[fuel];omega)
  rintro ⟨⟨o',cp'⟩,i,tk'⟩ rec2 ⟨j1,j2,j3,j4,j5⟩ ih2
  simp only[Prod.mk.injEq] at j1 j2 j3 j4 j5 ⊢
  obtain⟨rfl,rfl⟩:=j1
  subst j2
  refine Ret_dec (fun hlt2=>?_) fun hge2=>absurd f3 (j5 j0 f1 (by omega))
  refine Ret_chk (inb_t (by omega) (by omega)) ?_
  refine Ret_loop (Inv:=fun x:Bool×Int=>0≤x.2∧x.2≤p.length∧(x.1=true↔i∉o'∧∀k:Int,0≤k→k<x.2→k∈o'∨rkF p i≤rkF p k∨ovl (endR s.1) i.toNat k.toNat=false)) (m:=fun x=>((p.length:Int)-x.2).toNat) ?_ _ _ ⟨by simp,by simp,?_⟩ (by simp only[fuel];omega)
  ·rintro ⟨fr,k⟩ rec3 ⟨k1,k2,k3⟩ ih3
   simp only at k1 k2 k3 ⊢
   refine Ret_dec (fun hlt3=>?_) fun hge3=>?_
   ·have nxt:∀b:Bool,(b=true↔fr=true∧(k∈o'∨rkF p i≤rkF p k∨ovl (endR s.1) i.toNat k.toNat=false))→Ret (chk (i64b (k+1)) (rec3 (b,k+1))) fun r=>r.length=s.1.length∧Greedy (endR s.1) s.1.length p r:=fun b hb=>by
     refine Ret_chk (i64b_t (by omega) (by omega)) (ih3 _ ⟨by simp only;omega,by simp only;omega,?_⟩ (by simp only;omega))
     simp only
     rw[hb,k3]
     constructor
     ·rintro ⟨⟨a,b⟩,c⟩
      refine⟨a,fun k' x y=>?_⟩
      by_cases e:k'=k
      ·subst e;exact c
      ·exact b k' x (by omega)
     ·rintro ⟨a,b⟩
      exact⟨⟨a,fun k' x y=>b k' x (by omega)⟩,b k k1 (by omega)⟩
    cases fr with
    | false=>exact nxt false (by simp)
    | true=>
      simp only[cond_true]
      have hk4:=i4 k.toNat (by omega)
      rw[show((k.toNat:Nat):Int)=k by omega] at hk4
      refine Ret_chk (inb_t (by omega) (by omega)) ?_
      rw[hk4]
      refine Ret_dec (fun g=>nxt true (by simp[g])) fun g=>?_
      refine Ret_chk (inb_t (by omega) (by omega)) (Ret_chk (inb_t (by omega) (by omega)) ?_)
      rw[hrx i (by omega) (by omega),hrx k (by omega) (by omega)]
      refine Ret_dec (fun g2=>nxt true (by simp[g2])) fun g2=>?_
      have ff:∀x:Int,0≤x→x<s.1.length→rings_folded_from fuel (((s.1,s.2),endR s.1),x)=some (frm (endR s.1) x.toNat):=fun x a b=>rings_from_ok hn hel a b
      have ft:∀x:Int,0≤x→x<s.1.length→rings_folded_to fuel (((s.1,s.2),endR s.1),x)=some (too (endR s.1) x.toNat):=fun x a b=>rings_to_ok hn hel a b
      rw[ff k k1 (by omega),Option.bind_some,ft i j3 (by omega),Option.bind_some]
      refine Ret_dec (fun g3=>nxt true (by simp[ovl];omega)) fun g3=>?_
      rw[ff i j3 (by omega),Option.bind_some,ft k k1 (by omega),Option.bind_some]
      refine nxt _ ?_
      simp only[g,g2,false_or,true_and,ovl,decide_eq_true_eq,Bool.and_eq_false_iff,decide_eq_false_iff_not]
      omega
   ·have hfull:fr=true↔Free (endR s.1) s.1.length p o' i:=by
     rw[k3]
     unfold Free
     rw[show k=((s.1.length:Nat):Int) by omega]
    cases fr with
    | true=>
      simp only[cond_true]
      have ea:appCap (some p.length) (o'.length+1)=some p.length:=by
       simp only[appCap]
       rw[show(o'.length+1).ble p.length=true by rw[ble_dec];simp;omega];rfl
      rw[ea]
      refine Ret_chk (inb_t (by omega) (by omega)) (Ret_chk (lenOk_t (by omega)) (Ret_chk rfl (ih _ ⟨by simp;omega,rfl,by simp only[List.length_set];exact i3,fun m hm=>?_,i5.snoc j3 (by omega) (hfull.1 rfl) fun j a b c=>?_⟩ (by simp;omega))))
      ·simp only
       rw[List.getD,List.getElem?_set]
       by_cases e:i.toNat=m
       ·rw[if_pos e,if_pos (by omega)]
        simp only[Option.getD_some,List.mem_append,List.mem_singleton]
        rw[show(m:Int)=i by omega]
        simp
       ·rw[if_neg e]
        have:=i4 m hm
        rw[List.getD] at this
        rw[this]
        have hne:¬(m:Int)=i:=by omega
        simp[hne]
      ·rcases Int.lt_or_le j i with g | g
       ·exact absurd c (j5 j a g)
       ·exact g
    | false=>
      refine Ret_chk (i64b_t (by omega) (by omega)) (ih2 _ ⟨rfl,rfl,by simp only;omega,by simp only;omega,fun j a b=>?_⟩ (by simp only;omega))
      simp only at b
      by_cases e:j=i
      ·subst e;exact fun g=>by have:=hfull.2 g;cases this
      ·exact j5 j a (by omega)
  ·simp only
   have hi4:=i4 i.toNat (by omega)
   rw[show((i.toNat:Nat):Int)=i by omega] at hi4
   rw[hi4]
   constructor
   ·intro g
    exact⟨by simpa using g,fun k a b=>by omega⟩
   ·rintro ⟨g,_⟩;simpa using g
 ·simp only
  have:i<32:=by omega
  rw[decide_eq_false (by simp)]
  rcases(by omega:i=0∨i=1∨i=2∨i=3∨i=4∨i=5∨i=6∨i=7∨i=8∨i=9∨i=10∨i=11∨i=12∨i=13∨i=14∨i=15∨i=16∨i=17∨i=18∨i=19∨i=20∨i=21∨i=22∨i=23∨i=24∨i=25∨i=26∨i=27∨i=28∨i=29∨i=30∨i=31) with rfl | rfl | rfl | rfl | rfl | rfl | rfl | rfl | rfl | rfl | rfl | rfl | rfl | rfl | rfl | rfl | rfl | rfl | rfl | rfl | rfl | rfl | rfl | rfl | rfl | rfl | rfl | rfl | rfl | rfl | rfl | rfl<;>rfl
theorem Greedy.unique {E:List Int} {n:Nat} {p q L M:List Int} (h:Greedy E n p L) (h':Greedy E n q M) (hp:Ord n p) (hq:Ord n q) (hl:L.length=n) (hm:M.length=n) (hs:SameP E n p q):L=M:=by
 have hL:=h.ord hl
 have hM:=h'.ord hm
 have sL:=h.same hp hl
 have sM:=h'.same hq hm
 have tr:∀ {a b c:List Int},SameP E n a b→SameP E n b c→SameP E n a c:=fun x y i k u v w o=>(x i k u v w o).trans (y i k u v w o)
 have sy:∀ {a b:List Int},SameP E n a b→SameP E n b a:=fun x i k u v w o=>(x i k u v w o).symm
 exact eq_of_not_lt (by omega) (h'.first hq hm hL (tr (sy hs) sL)) (h.first hp hl hM (tr hs sM))
theorem rings_Least_ok {s:List Int×List Int} (h:RValid s) {p:List Int} (hp:Ord s.1.length p):Ret (rings_Least fuel (s,p)) fun r=>r.2=0∧r.1.length=s.1.length∧Greedy (endR s.1) s.1.length p r.1:=by
 unfold rings_Least
 rw[show rings_listed fuel ((s.1,s.2),p)=some 0 from rings_listed_ord h hp,Option.bind_some]
 refine Ret_dec (fun g=>absurd rfl g) fun _=>?_
 rw[show rings_of fuel (s.1,s.2)=_ from rings_of_ok h,Option.bind_some]
 exact Ret_bind (rings_folded_least_ok h hp) fun r hr=>Ret_some ⟨rfl,hr⟩
end X
end Go.Vm
namespace Go.Vm
namespace X
open W Go.Proofs.St
theorem ovl_t {E:List Int} {i k:Nat}:ovl E i k=true↔frm E i<too E k∧frm E k<too E i:=by
 unfold ovl
 rw[Bool.and_eq_true,decide_eq_true_iff,decide_eq_true_iff]
def resK (k:Nat) (q:List Int):List Int:=q.filter fun x=>decide (x< (k:Int))
theorem idL_res:∀ {n k:Nat},k≤n→(idL n).filter (fun x:Int=>decide (x< (k:Int)))=idL k
 | 0,k,h=>by rw[show k=0 by omega];rfl
 | n+1,k,h=>by
   rw[idL_snoc,List.filter_append]
   by_cases e:k≤n
   ·rw[idL_res e]
    simp
    omega
   ·rw[show k=n+1 by omega,idL_snoc]
    congr 1
    ·rw[List.filter_eq_self]
     intro x hx
     have:=mem_idL.1 hx
     simp;omega
    ·simp;omega
theorem resK_ord {n k:Nat} {q:List Int} (h:Ord n q) (hk:k≤n):Ord k (resK k q):=by
 have:=List.Perm.filter (fun x=>decide (x< (k:Int))) h
 rw[idL_res hk] at this
 exact this
theorem resK_full {n:Nat} {q:List Int} (h:Ord n q):resK n q=q:=by
 rw[resK,List.filter_eq_self]
 intro x hx
 have:=h.in x hx
 simp;omega
theorem resK_zero {n:Nat} {q:List Int} (h:Ord n q):resK 0 q=[]:=by
 rw[resK,List.filter_eq_nil_iff]
 intro x hx
 have:=h.in x hx
 simp;omega
theorem resK_step {n k:Nat} {q:List Int} (h:Ord n q) (hk:k<n):∃a:Nat,a≤k∧resK (k+1) q=(resK k q).take a++[(k:Int)]++(resK k q).drop a:=by
 have h1:=resK_ord h (k:=k+1) (by omega)
 obtain⟨A,B,e⟩:=List.append_of_mem (h1.mem (i:=k) (by omega))
 have hl:=h1.len
 have nd:=h1.nodup
 have e2:resK k q=A++B:=by
  have e3:resK k q=(resK (k+1) q).filter fun x=>decide (x< (k:Int)):=by
   rw[resK,resK,List.filter_filter]
   congr 1
   funext x
   rw[Bool.eq_iff_iff]
   simp
   omega
  rw[e3,e,List.filter_append,List.filter_cons,if_neg (by simp)]
  rw[e] at nd
  have hin:∀x,x∈A∨x∈B→x< (k:Int):=fun x hx=>by
   have hm:x∈resK (k+1) q:=by rw[e];simp only[List.mem_append,List.mem_cons];rcases hx with g | g<;>simp[g]
   have:=h1.in x hm
   have hne:x≠k:=fun e'=>by
    subst e'
    rw[List.nodup_append,List.nodup_cons] at nd
    rcases hx with g | g
    ·exact nd.2.2 _ g _ List.mem_cons_self rfl
    ·exact nd.2.1.1 g
   omega
  congr 1
  ·rw[List.filter_eq_self];intro x hx;simpa using hin x (.inl hx)
  ·rw[List.filter_eq_self];intro x hx;simpa using hin x (.inr hx)
 refine⟨A.length,?_,?_⟩
 ·have:=(resK_ord h (k:=k) (by omega)).len
  rw[e2,List.length_append] at this
  omega
 ·rw[e2,e,List.take_left,List.drop_left]
  simp
theorem res_rk {n k:Nat} {q:List Int} (h:Ord n q) (hk:k≤n) {x y:Int} (x0:0≤x) (x1:x<k) (y0:0≤y) (y1:y<k):rkF (resK k q) x<rkF (resK k q) y↔rkF q x<rkF q y:=by
 have ho:=resK_ord h hk
 have key:∀a b:Int,0≤a→a<k→0≤b→b<k→rkF (resK k q) a<rkF (resK k q) b→rkF q a<rkF q b:=fun a b a0 a1 b0 b1 hlt=>by
  have pw:(resK k q).Pairwise fun u v=>rkF q u<rkF q v:=(rkF_pw h.nodup).filter _
  obtain⟨u1,u2,u3⟩:=at_rkF (ho.memI a0 a1)
  obtain⟨v1,v2,v3⟩:=at_rkF (ho.memI b0 b1)
  have:=List.pairwise_iff_getElem.1 pw _ _ u1 v1 (by omega)
  rw[List.getD,List.getElem?_eq_getElem u1,Option.getD_some] at u2
  rw[List.getD,List.getElem?_eq_getElem v1,Option.getD_some] at v2
  rwa[u2,v2] at this
 refine⟨key x y x0 x1 y0 y1,fun g=>?_⟩
 rcases Int.lt_trichotomy (rkF (resK k q) x) (rkF (resK k q) y) with e | e | e
 ·exact e
 ·have:=rkF_inj (ho.memI x0 x1) (ho.memI y0 y1) e
  subst this;omega
 ·have:=key y x y0 y1 x0 x1 e
  omega
structure PartOf (n k:Nat) (f g:Int→Int):Prop where
 pos:∀x:Int,0≤x→x<k→0≤f x
 no:∀x:Int,(k:Int)≤x→x<n→f x= -1
 iso:∀x y:Int,0≤x→x<k→0≤y→y<k→(f x<f y↔g x<g y)
theorem PartOf.bet {n k:Nat} {f g:Int→Int} (h:PartOf n k f g) {i x:Int} (i0:0≤i) (i1:i<n) (x0:0≤x) (x1:x<n):
  (BetP n f i x→i<k∧sc n i<k∧x<k)∧(i<k→sc n i<k→x<k→(BetP n f i x↔BetR n g i x)):=by
 have s0:0≤sc n i∧sc n i<n:=by unfold sc;split<;>omega
 have a1:i<k∨f i= -1:=by rcases Int.lt_or_le i k with c | c;exact .inl c;exact .inr (h.no i c i1)
 have a2:sc n i<k∨f (sc n i)= -1:=by rcases Int.lt_or_le (sc n i) k with c | c;exact .inl c;exact .inr (h.no _ c s0.2)
 have a3:x<k∨f x= -1:=by rcases Int.lt_or_le x k with c | c;exact .inl c;exact .inr (h.no _ c x1)
 unfold BetP BetR
 refine⟨fun hb=>by omega,fun b1 b2 b3=>?_⟩
 have:=h.pos i i0 b1;have:=h.pos _ s0.1 b2
 have:=h.iso i x i0 b1 x0 b3;have:=h.iso x i x0 b3 i0 b1;have:=h.iso _ x s0.1 b2 x0 b3;have:=h.iso x _ x0 b3 s0.1 b2
 omega
theorem PartOf.cross {E:List Int} {n k:Nat} {f g:Int→Int} (h:PartOf n k f g) (hc:CrossP E n f):CrossR E n g:=by
 obtain⟨i,i0,i1,hc⟩:=hc
 have ss:∀j:Int,0≤j→j<n→0≤sc n j∧sc n j<n:=fun j a b=>by unfold sc;split<;>omega
 refine⟨i,i0,i1,?_⟩
 rcases hc with⟨j,j0,j1,e1,e2,e3⟩ | ⟨j,j0,j1,e1,e2,e3,e4,e5⟩
 ·obtain⟨b1,b2⟩:=h.bet i0 i1 j0 j1
  obtain⟨c1,c2,c3⟩:=b1 e3
  exact .inl ⟨j,j0,j1,e1,e2,(b2 c1 c2 c3).1 e3⟩
 ·have sj:=ss j j0 j1
  have si:=ss i i0 i1
  obtain⟨b1,b2⟩:=h.bet i0 i1 j0 j1
  obtain⟨b3,b4⟩:=h.bet i0 i1 sj.1 sj.2
  have jk:j<k∧sc n j<k:=by
   have a1:j<k∨f j= -1:=by rcases Int.lt_or_le j k with c | c;exact .inl c;exact .inr (h.no j c j1)
   have a2:sc n j<k∨f (sc n j)= -1:=by rcases Int.lt_or_le (sc n j) k with c | c;exact .inl c;exact .inr (h.no _ c sj.2)
   omega
  by_cases c:i<k∧sc n i<k
  ·exact .inr ⟨j,j0,j1,e1,e2,e3,by rw[←b2 c.1 c.2 jk.1,←b4 c.1 c.2 jk.2];exact e5⟩
  ·exact absurd ⟨fun g=>absurd ⟨(b1 g).1,(b1 g).2.1⟩ c,fun g=>absurd ⟨(b3 g).1,(b3 g).2.1⟩ c⟩ e5
theorem PartOf.wrong {K:List Int} {n k:Nat} {f g:Int→Int} (h:PartOf n k f g) (hw:WrongP K n f):WrongR K n g:=by
 obtain⟨i,i0,i1,e1,e2,e3⟩:=hw
 have si:0≤sc n i∧sc n i<n:=by unfold sc;split<;>omega
 have a1:i<k∨f i= -1:=by rcases Int.lt_or_le i k with c | c;exact .inl c;exact .inr (h.no i c i1)
 have a2:sc n i<k∨f (sc n i)= -1:=by rcases Int.lt_or_le (sc n i) k with c | c;exact .inl c;exact .inr (h.no _ c si.2)
 have t1:=h.iso i _ i0 (by omega) si.1 (by omega)
 have t2:=h.iso _ i si.1 (by omega) i0 (by omega)
 refine⟨i,i0,i1,e1,fun e=>e3 (e.trans ?_)⟩
 unfold kindR
 by_cases c:i%2=0
 ·rw[if_pos c,if_pos c]
  by_cases d:f i<f (sc n i)
  ·rw[if_pos d,if_pos (t1.1 d)]
  ·rw[if_neg d,if_neg (fun x=>d (t1.2 x))]
 ·rw[if_neg c,if_neg c]
  by_cases d:f (sc n i)<f i
  ·rw[if_pos d,if_pos (t2.1 d)]
  ·rw[if_neg d,if_neg (fun x=>d (t2.2 x))]
theorem same_cross {E:List Int} {n:Nat} (h:REnds E n) {p q:List Int} (hp:Ord n p) (hq:Ord n q) (hs:SameP E n p q) (hc:CrossR E n (rkF p)):CrossR E n (rkF q):=by
 obtain⟨i,i0,i1,hc⟩:=hc
 have si:=h.sc_lt i0 i1
 have at1:=h.at_sc i0 i1
 have u1:=h.up i.toNat (by omega);have u2:=h.down i.toNat (by omega)
 have u3:=h.up (sc n i).toNat (by omega);have u4:=h.down (sc n i).toNat (by omega)
 have key:∀x:Int,0≤x→x<n→ovl E i.toNat x.toNat=true→ovl E (sc n i).toNat x.toNat=true→(BetR n (rkF p) i x↔BetR n (rkF q) i x):=fun x x0 x1 o1 o2=>by
  have t1:=hs.all hp hq i0 i1 x0 x1 o1
  have t2:=hs.all hp hq x0 x1 i0 i1 (by rw[ovl_symm];exact o1)
  have t3:=hs.all hp hq si.1 si.2.1 x0 x1 o2
  have t4:=hs.all hp hq x0 x1 si.1 si.2.1 (by rw[ovl_symm];exact o2)
  unfold BetR
  omega
 refine⟨i,i0,i1,?_⟩
 rcases hc with⟨j,j0,j1,e1,e2,e3⟩ | ⟨j,j0,j1,e1,e2,e3,e5⟩
 ·refine .inl ⟨j,j0,j1,e1,e2,(key j j0 j1 ?_ ?_).1 e3⟩<;>
  ·rw[ovl_t]
   unfold frm too at *
   omega
 ·have sj:=h.sc_lt j0 j1
  have at2:=h.at_sc j0 j1
  have v1:=h.up j.toNat (by omega);have v2:=h.down j.toNat (by omega)
  have v3:=h.up (sc n j).toNat (by omega);have v4:=h.down (sc n j).toNat (by omega)
  refine .inr ⟨j,j0,j1,e1,e2,e3,?_⟩
  rw[←key j j0 j1,←key (sc n j) sj.1 sj.2.1]
  ·exact e5
  all_goals
   rw[ovl_t]
   unfold frm too
   omega
theorem same_wrong {E K:List Int} {n:Nat} (h:REnds E n) {p q:List Int} (hp:Ord n p) (hq:Ord n q) (hs:SameP E n p q) (hw:WrongR K n (rkF p)):WrongR K n (rkF q):=by
 obtain⟨i,i0,i1,e1,e3⟩:=hw
 have si:=h.sc_lt i0 i1
 have at1:=h.at_sc i0 i1
 have u1:=h.up i.toNat (by omega);have u2:=h.down i.toNat (by omega)
 have u3:=h.up (sc n i).toNat (by omega);have u4:=h.down (sc n i).toNat (by omega)
 have ho:ovl E i.toNat (sc n i).toNat=true:=by
  rw[ovl_t]
  unfold frm too
  omega
 have t1:=hs.all hp hq i0 i1 si.1 si.2.1 ho
 have t2:=hs.all hp hq si.1 si.2.1 i0 i1 (by rw[ovl_symm];exact ho)
 refine⟨i,i0,i1,e1,fun e=>e3 (e.trans ?_)⟩
 unfold kindR
 by_cases c:i%2=0
 ·rw[if_pos c,if_pos c]
  by_cases d:rkF p i<rkF p (sc n i)
  ·rw[if_pos d,if_pos (t1.1 d)]
  ·rw[if_neg d,if_neg (fun x=>d (t1.2 x))]
 ·rw[if_neg c,if_neg c]
  by_cases d:rkF p (sc n i)<rkF p i
  ·rw[if_pos d,if_pos (t2.1 d)]
  ·rw[if_neg d,if_neg (fun x=>d (t2.2 x))]
theorem SameP.sy {E:List Int} {n:Nat} {a b:List Int} (x:SameP E n a b):SameP E n b a:=fun i k u v w o=>(x i k u v w o).symm
theorem SameP.tr {E:List Int} {n:Nat} {a b c:List Int} (x:SameP E n a b) (y:SameP E n b c):SameP E n a c:=fun i k u v w o=>(x i k u v w o).trans (y i k u v w o)
structure VPile (s:List Int×List Int) (p:List Int):Prop where
 ord:Ord s.1.length p
 nc:¬CrossR (endR s.1) s.1.length (rkF p)
 nw:¬WrongR s.2 s.1.length (rkF p)
theorem VPile.same {s:List Int×List Int} (h:RValid s) {p q:List Int} (hp:VPile s p) (hq:Ord s.1.length q) (hs:SameP (endR s.1) s.1.length p q):VPile s q:=
 ⟨hq,fun c=>hp.nc (same_cross h.ends hq hp.ord hs.sy c),fun c=>hp.nw (same_wrong h.ends hq hp.ord hs.sy c)⟩
structure Way (s:List Int×List Int) (l:List Int):Prop where
 vp:VPile s l
 gr:Greedy (endR s.1) s.1.length l l
theorem way_of {s:List Int×List Int} (h:RValid s) {q l:List Int} (hq:VPile s q) (hl:l.length=s.1.length) (hg:Greedy (endR s.1) s.1.length q l):Way s l:=by
 have ho:=hg.ord hl
 have hs:=hg.same hq.ord hl
 obtain⟨m,_,m1,m2⟩:=rings_folded_least_ok h ho
 have e:=hg.unique m2 hq.ord ho hl m1 hs
 exact⟨hq.same h ho hs,by rw[e] at m2 ⊢;exact m2⟩
abbrev T8:Ty:=.arr 8 (.int .i64)
theorem leq_int:∀l m:List Int,leq (Ty.eqb (.int .i64)) l m=true↔l=m
 | [],[]=>by simp[leq]
 | [],_::_=>by simp[leq]
 | _::_,[]=>by simp[leq]
 | a::l,b::m=>by
   have:=leq_int l m
   simp only[leq,Ty.eqb]
   by_cases e:a=b
   ·simp only[e,decide_true,cond_true]
    exact this.trans (by simp)
   ·simp only[e,decide_false,cond_false]
    simp[e]
theorem eqb8 {x y:List Int}:T8.eqb x y=true↔x=y:=leq_int x y
def keyP (l:List Int):List Int:=List.take 0 [0,0,0,0,0,0,0,0]++(l++List.drop (0+l.length) [0,0,0,0,0,0,0,0])
theorem keyP_inj {l m:List Int} (h:l.length=m.length) (e:keyP l=keyP m):l=m:=by
 unfold keyP at e
 rw[List.append_cancel_left_eq] at e
 exact(List.append_inj e h).1
theorem mget_put {x y:List Int}:∀ {M:List (List Int×Bool)},mgetP T8 .bool x (mputP T8 .bool y true M)=if x=y then some true else mgetP T8 .bool x M
 | []=>by
   show(bif T8.eqb x y then some true else none)=_
   by_cases e:x=y
   ·rw[if_pos e,eqb8.2 e];rfl
   ·rw[if_neg e,Bool.eq_false_iff.2 (fun c=>e (eqb8.1 c))];rfl
 | a::M=>by
   show mgetP T8 .bool x (bif T8.eqb y a.1 then(y,true)::M else a::mputP T8 .bool y true M)=if x=y then some true else(bif T8.eqb x a.1 then some a.2 else mgetP T8 .bool x M)
   have ih:=mget_put (x:=x) (y:=y) (M:=M)
   by_cases e1:y=a.1
   ·rw[eqb8.2 e1,cond_true]
    show(bif T8.eqb x y then some true else mgetP T8 .bool x M)=_
    by_cases e:x=y
    ·rw[if_pos e,eqb8.2 e];rfl
    ·rw[if_neg e,Bool.eq_false_iff.2 (fun c=>e (eqb8.1 c)),←e1,Bool.eq_false_iff.2 (fun c=>e (eqb8.1 c))];rfl
   ·rw[Bool.eq_false_iff.2 (fun c=>e1 (eqb8.1 c)),cond_false]
    show(bif T8.eqb x a.1 then some a.2 else mgetP T8 .bool x (mputP T8 .bool y true M))=_
    rw[ih]
    by_cases e2:x=a.1
    ·rw[eqb8.2 e2,cond_true,cond_true,if_neg (fun c=>e1 (c.symm.trans e2))]
    ·rw[Bool.eq_false_iff.2 (fun c=>e2 (eqb8.1 c)),cond_false,cond_false]
theorem len_of_sub {α:Type}:∀ {l p:List α},l.Nodup→(∀x∈l,x∈p)→l.length≤p.length
 | [],p,_,_=>Nat.zero_le _
 | a::l,p,hn,h=>by
   obtain⟨h1,h2⟩:=List.nodup_cons.1 hn
   obtain⟨A,B,rfl⟩:=List.append_of_mem (h a List.mem_cons_self)
   have:=len_of_sub (l:=l) (p:=A++B) h2 fun x hx=>by
    have:=h x (List.mem_cons_of_mem _ hx)
    simp only[List.mem_append,List.mem_cons] at this ⊢
    rcases this with g | g | g
    ·exact .inl g
    ·subst g;exact absurd hx h1
    ·exact .inr g
   rw[List.length_append] at this
   rw[List.length_cons,List.length_append,List.length_cons]
   omega
theorem ordX_le8 {n:Nat} (h:n≤8):(ordX n).length≤40320:=by
 have h5:∀m,m≤6→(ordX m).length≤720:=fun m hm=>ordX_le hm
 have h7:∀m,m≤7→(ordX m).length≤5040:=fun m hm=>by
  rcases Nat.lt_or_ge m 7 with g | g
  ·have:=h5 m (by omega);omega
  ·obtain⟨k,rfl⟩:∃k,m=k+1:=⟨m-1,by omega⟩
   have e:=ordX_len k
   have:=Nat.mul_le_mul (show k+1≤7 by omega) (h5 k (by omega))
   omega
 rcases Nat.lt_or_ge n 8 with g | g
 ·have:=h7 n (by omega);omega
 ·obtain⟨k,rfl⟩:∃k,n=k+1:=⟨n-1,by omega⟩
  have e:=ordX_len k
  have:=Nat.mul_le_mul (show k+1≤8 by omega) (h7 k (by omega))
  omega
structure Fnd (s:List Int×List Int) (M:List (List Int×Bool)) (O:List (List Int)):Prop where
 nd:O.Nodup
 way:∀l∈O,Way s l
 key:∀l:List Int,l.length=s.1.length→((mgetP T8 .bool (keyP l) M).getD false=true↔l∈O)
theorem Fnd.len {s:List Int×List Int} {M:List (List Int×Bool)} {O:List (List Int)} (h:Fnd s M O) (h8:s.1.length≤8):O.length≤40320:=
 Nat.le_trans (len_of_sub h.nd fun l hl=>ordX_mem (h.way l hl).vp.ord) (ordX_le8 h8)
theorem Fnd.snoc {s:List Int×List Int} {M:List (List Int×Bool)} {O:List (List Int)} {l:List Int} (h:Fnd s M O) (hl:Way s l) (hn:l∉O):Fnd s (mputP T8 .bool (keyP l) true M) (O++[l]):=by
 refine⟨?_,fun m hm=>?_,fun m hm=>?_⟩
 ·rw[List.nodup_append]
  exact⟨h.nd,by simp,fun a ha b hb e=>hn (by simp at hb;rw[←hb,←e];exact ha)⟩
 ·rcases List.mem_append.1 hm with g | g
  ·exact h.way m g
  ·simp at g;subst g;exact hl
 ·rw[mget_put,List.mem_append,List.mem_singleton]
  by_cases e:m=l
  ·subst e;simp
  ·rw[if_neg fun c=>e (keyP_inj (by rw[hm,hl.vp.ord.len]) c),h.key m hm]
   simp[e]
def Got (s:List Int×List Int) (P:List Int→Prop) (O:List (List Int)):Prop:=∀q,VPile s q→P q→∀l:List Int,l.length=s.1.length→Greedy (endR s.1) s.1.length q l→l∈O
abbrev argW (s:List Int×List Int) (p:List Int) (M:List (List Int×Bool)) (O:List (List Int)):(List Int)×((((List Int)×(List Int))×(List Int))×(((List Int)×(List Int))×(Unit×(((List ((List Int)×Bool))×Unit)×(((List (List Int))×Unit)×Unit))))):=
 (p,((s,endR s.1),(s,((),((M,()),((O,()),()))))))
theorem grow_ok {s:List Int×List Int} (h:RValid s) (h8:s.1.length≤8):∀(d k:Nat) (p:List Int) (M:List (List Int×Bool)) (O:List (List Int)),s.1.length<k+d→k≤s.1.length→Ord k p→Fnd s M O→
  Ret (rings_ways_c1_r fuel d (argW s p M O)) fun r=>Fnd s r.2.2.2.2.2.1.1 r.2.2.2.2.2.2.1.1∧(∀l∈O,l∈r.2.2.2.2.2.2.1.1)∧Got s (fun q=>resK k q=p) r.2.2.2.2.2.2.1.1
 | 0,k,p,M,O,hd,hk,_,_=>by omega
 | d+1,k,p,M,O,hd,hk,hp,hF=>by
   have hpl:=hp.len
   unfold rings_ways_c1_r rings_ways_c1_f
   simp only[argW]
   refine Ret_bind (rings_rank_ok hp.in hp.nodup (by omega) (by omega)) fun r hr=>?_
   have hpart:∀q,Ord s.1.length q→resK k q=p→PartOf s.1.length k (fun x=>r.getD x.toNat 0) (rkF q):=fun q hq e=>by
    have heq:∀x:Int,0≤x→x<k→r.getD x.toNat 0=rkF p x:=hr.rk.eqF hp
    refine⟨fun x x0 x1=>by rw[heq x x0 x1];exact rkF_nonneg _ _,fun x x0 x1=>?_,fun x y x0 x1 y0 y1=>?_⟩
    ·exact hr.no x.toNat (by omega) fun g=>by have:=hp.in _ g;omega
    ·rw[heq x x0 x1,heq y y0 y1,←e]
     exact res_rk hq hk x0 x1 y0 y1
   refine Ret_bind (rings_crosses_ok h hr.len) fun b hb=>Ret_bif (fun e=>Ret_some ⟨hF,fun l hl=>hl,fun q hq hqp=>absurd ((hpart q hq.ord hqp).cross (hb.1 e)) hq.nc⟩) fun e=>?_
   refine Ret_bind (rings_wrong_ok h hr.len) fun b2 hb2=>Ret_bif (fun e2=>Ret_some ⟨hF,fun l hl=>hl,fun q hq hqp=>absurd ((hpart q hq.ord hqp).wrong (hb2.1 e2)) hq.nw⟩) fun e2=>?_
   refine Ret_dec (fun hlt=>?_) fun hge=>?_
   ·refine Ret_chk (i64b_t (by omega) (by omega)) ?_
    refine Ret_loop (Inv:=fun x:Int×((List (List Int×Bool)×Unit)×(List (List Int)×Unit))=>0≤x.1∧x.1≤k+1∧Fnd s x.2.1.1 x.2.2.1∧(∀l∈O,l∈x.2.2.1)∧∀a:Nat,(a:Int)<x.1→Got s (fun q=>resK (k+1) q=p.take a++[(k:Int)]++p.drop a) x.2.2.1) (m:=fun x=>((k:Int)+1-x.1).toNat) ?_ _ _ ⟨by simp,by simp only;omega,hF,fun l hl=>hl,fun a ha=>by simp only at ha;omega⟩ (by simp only[fuel];omega)
    rintro ⟨a,⟨M1,u1⟩,O1,u2⟩ rec ⟨i1,i2,i3,i4,i5⟩ ih
    simp only at i1 i2 i3 i4 i5 ⊢
    refine Ret_dec (fun hlt2=>?_) fun hge2=>?_
    ·have ins:slices_Insert_int fuel (p,(a,[((p.length:Nat):Int)]))=some (p.take a.toNat++[(k:Int)]++p.drop a.toNat):=by
      unfold slices_Insert_int insR
      by_cases e0:k=0
      ·have:p=[]:=List.eq_nil_of_length_eq_zero (by omega)
       subst this
       have ea:a=0:=by omega
       subst ea
       rw[show k=0 from e0]
       rfl
      ·have ne:p.isEmpty=false:=by
        cases p with
        | nil=>simp at hpl;omega
        | cons x t=>rfl
       rw[ne,cond_false]
       unfold insR1
       dsimp only
       rw[show(decide (0≤a)&&decide (a≤a)&&inb a (p.length+1)&&(1:Nat).ble p.length&&p.length.ble 1000000&&(1:Nat).ble [((p.length:Nat):Int)].length&&[((p.length:Nat):Int)].length.ble 1000&&(decide (a=a)||decide (a<a + [((p.length:Nat):Int)].length)))=true by
        rw[decide_eq_true i1,decide_eq_true (Int.le_refl a),inb_t i1 (by omega),Nat.ble_eq_true_of_le (show 1≤p.length by omega),Nat.ble_eq_true_of_le (show p.length≤1000000 by omega),decide_eq_true (rfl:a=a)];rfl]
       rw[cond_true,insL,hpl]
     have clo:slices_Clone_int fuel p=some p:=by
      unfold slices_Clone_int
      rw[chk_t (lenOk_t (by omega))]
      rfl
     rw[clo,Option.bind_some,ins,Option.bind_some]
     have ho1:Ord (k+1) (p.take a.toNat++[(k:Int)]++p.drop a.toNat):=by
      unfold Ord
      rw[idL_snoc]
      refine List.Perm.trans ?_ (List.Perm.append_right [(k:Int)] hp)
      rw[List.append_assoc]
      refine List.Perm.trans (List.Perm.append_left _ List.perm_append_comm) ?_
      rw[←List.append_assoc,List.take_append_drop]
     refine Ret_bind (grow_ok h h8 d (k+1) _ M1 O1 (by omega) (by omega) ho1 i3) fun r2 ⟨g1,g2,g3⟩=>?_
     refine Ret_chk (i64b_t (by omega) (by omega)) (ih _ ⟨by simp only;omega,by simp only;omega,g1,fun l hl=>g2 l (i4 l hl),fun b hb=>?_⟩ (by simp only;omega))
     simp only at hb ⊢
     by_cases eb:(b:Int)=a
     ·rw[show b=a.toNat by omega];exact g3
     ·exact fun q hq hqp l hl hg=>g2 l (i5 b (by omega) q hq hqp l hl hg)
    ·refine Ret_some ⟨i3,i4,fun q hq hqp l hl hg=>?_⟩
     obtain⟨b,hb,e⟩:=resK_step hq.ord (k:=k) (by omega)
     rw[hqp] at e
     exact i5 b (by omega) q hq e l hl hg
   ·have ek:k=s.1.length:=by omega
    subst ek
    have hfg:=hr.rk.eqF hp
    have hnn:∀x:Int,0≤x→x<s.1.length→0≤rkF p x:=fun x _ _=>rkF_nonneg p x
    rw[crossP_full hfg hnn] at hb
    rw[wrongP_full hfg hnn] at hb2
    have hv:VPile s p:=⟨hp,(fun c=>by rw[hb.2 c] at e;cases e),(fun c=>by rw[hb2.2 c] at e2;cases e2)⟩
    refine Ret_bind (rings_folded_least_ok h hp) fun l ⟨l1,l2⟩=>?_
    have hw:=way_of h hv l1 l2
    have h2:=h.two
    refine Ret_chk (by simp[bnb]) (Ret_chk (by rw[Nat.ble_eq_true_of_le (by omega),Nat.ble_eq_true_of_le (by omega)];rfl) ?_)
    have own:∀q,VPile s q→resK s.1.length q=p→∀m:List Int,m.length=s.1.length→Greedy (endR s.1) s.1.length q m→m=l:=fun q hq hqp m hm hg=>by
     rw[resK_full hq.ord] at hqp
     subst hqp
     exact hg.unique l2 hp hp hm l1 SameP.refl
    have kk:=hF.key l l1
    rw[show(List.take 0 [0,0,0,0,0,0,0,0]++(l++List.drop (0+l.length) [0,0,0,0,0,0,0,0]):List Int)=keyP l from rfl]
    cases hg:(mgetP T8 .bool (keyP l) M).getD false with
    | false=>
      have hn:l∉O:=fun c=>by rw[kk.2 c] at hg;cases hg
      have:=hF.len h8
      refine Ret_chk (lenOk_t (by omega)) (Ret_some ⟨hF.snoc hw hn,fun m hm=>List.mem_append_left _ hm,fun q hq hqp m hm hgm=>?_⟩)
      rw[own q hq hqp m hm hgm]
      simp
    | true=>
      refine Ret_some ⟨hF,fun m hm=>hm,fun q hq hqp m hm hgm=>?_⟩
      rw[own q hq hqp m hm hgm]
      exact kk.1 hg
theorem rings_ways_ok {s:List Int×List Int} (h:RValid s) (h8:s.1.length≤8):Ret (rings_ways fuel s) fun L=>L.Pairwise (fun a b=>cmpI a b<0)∧∀l,l∈L↔Way s l:=by
 unfold rings_ways
 rw[show rings_of fuel (s.1,s.2)=_ from rings_of_ok h,Option.bind_some]
 unfold rings_ways_c1
 refine Ret_bind (grow_ok h h8 12 0 [] [] [] (by omega) (by omega) (List.Perm.refl _) ⟨List.nodup_nil,fun l hl=>by simp at hl,fun l _=>by simp[mgetP]⟩) fun r ⟨g1,g2,g3⟩=>?_
 have hlen:=g1.len h8
 have hw:=g1.way
 have hnd:=g1.nd
 generalize r.2.2.2.2.2.2.1.1=O at *
 have h2:=h.two
 have e:slices_SortFunc_Lint fuel (O,((),()))=some ((),(sortI O,((),()))):=by
  unfold slices_SortFunc_Lint sortR
  rw[show(O.length.ble 1000000&&O.all (fun l=>(1:Nat).ble l.length&&l.length.ble 1000000))=true by
   rw[Nat.ble_eq_true_of_le (by omega),Bool.true_and,List.all_eq_true]
   intro l hl
   have:=(hw l hl).vp.ord.len
   rw[Nat.ble_eq_true_of_le (by omega),Nat.ble_eq_true_of_le (by omega)];rfl]
  rfl
 rw[e,Option.bind_some]
 have pm:=sortI_perm O
 refine Ret_some ⟨?_,fun l=>?_⟩
 ·have nd:(sortI O).Nodup:=pm.nodup_iff.2 hnd
  have:=(sortI_sorted O).and nd
  refine this.imp fun {a b} ⟨x,y⟩=>?_
  rcases Int.lt_or_le (cmpI a b) 0 with g | g
  ·exact g
  ·exact absurd (cmpI_zero (by omega)) y
 ·simp only
  rw[pm.mem_iff]
  exact⟨hw l,fun hl=>g3 l hl.vp (resK_zero hl.vp.ord) l hl.vp.ord.len hl.gr⟩
end X
end Go.Vm
namespace Go.Vm
namespace X
open W Go.Proofs.St
theorem srt_ext:∀ {l m:List (List Int)},l.Pairwise (fun a b=>cmpI a b<0)→m.Pairwise (fun a b=>cmpI a b<0)→(∀x,x∈l↔x∈m)→l=m
 | [],[],_,_,_=>rfl
 | [],b::m,_,_,h=>by have:=(h b).2 List.mem_cons_self;simp at this
 | a::l,[],_,_,h=>by have:=(h a).1 List.mem_cons_self;simp at this
 | a::l,b::m,hl,hm,h=>by
   rw[List.pairwise_cons] at hl hm
   have e:a=b:=by
    rcases List.mem_cons.1 ((h a).1 List.mem_cons_self) with g | g
    ·exact g
    ·rcases List.mem_cons.1 ((h b).2 List.mem_cons_self) with g2 | g2
     ·exact g2.symm
     ·have h1:=hl.1 b g2
      have h2:=hm.1 a g
      rw[cmpI_swap a b] at h2
      omega
   subst e
   congr 1
   refine srt_ext hl.2 hm.2 fun x=>⟨fun hx=>?_,fun hx=>?_⟩
   ·rcases List.mem_cons.1 ((h x).1 (List.mem_cons_of_mem _ hx)) with g | g
    ·have:=hl.1 x hx
     rw[g,cmpI_self] at this
     omega
    ·exact g
   ·rcases List.mem_cons.1 ((h x).2 (List.mem_cons_of_mem _ hx)) with g | g
    ·have:=hm.1 x hx
     rw[g,cmpI_self] at this
     omega
    ·exact g
theorem rings_searched_ok {s:List Int×List Int} (h:RValid s) (h8:s.1.length≤8):rings_searched fuel s=some 0:=by
 unfold rings_searched
 rw[show rings_Check fuel (s.1,s.2)=some 0 from rings_Check_ok h,Option.bind_some]
 rw[show decide ((0:Int)≠0)=false from rfl,cond_false,decide_eq_false (by omega),cond_false]
structure WaysL (s:List Int×List Int) (L:List (List Int)):Prop where
 srt:L.Pairwise fun a b=>cmpI a b<0
 mem:∀l,l∈L↔Way s l
theorem WaysL.len {s:List Int×List Int} {L:List (List Int)} (h:WaysL s L) (h8:s.1.length≤8):L.length≤40320:=by
 refine Nat.le_trans (len_of_sub (h.srt.imp fun {a b} hab e=>?_) fun l hl=>ordX_mem ((h.mem l).1 hl).vp.ord) (ordX_le8 h8)
 rw[e,cmpI_self] at hab
 omega
theorem rings_Count_ok {s:List Int×List Int} (h:RValid s) (h8:s.1.length≤8) {L:List (List Int)} (hL:WaysL s L):rings_Count fuel s=some ((L.length:Int),0):=by
 apply Ret.eq
 unfold rings_Count
 rw[show rings_searched fuel (s.1,s.2)=some 0 from rings_searched_ok h h8,Option.bind_some]
 refine Ret_dec (fun g=>absurd rfl g) fun _=>?_
 refine Ret_bind (rings_ways_ok h h8) fun M ⟨m1,m2⟩=>Ret_some ?_
 rw[srt_ext m1 hL.srt fun x=>(m2 x).trans (hL.mem x).symm]
theorem rings_First_ok {s:List Int×List Int} (h:RValid s) (h8:s.1.length≤8) {L:List (List Int)} (hL:WaysL s L):rings_First fuel s=some (if L=[] then([],7) else(L.getD 0 [],0)):=by
 apply Ret.eq
 unfold rings_First
 rw[show rings_searched fuel (s.1,s.2)=some 0 from rings_searched_ok h h8,Option.bind_some]
 refine Ret_dec (fun g=>absurd rfl g) fun _=>?_
 refine Ret_bind (rings_ways_ok h h8) fun M ⟨m1,m2⟩=>?_
 rw[srt_ext m1 hL.srt fun x=>(m2 x).trans (hL.mem x).symm]
 refine Ret_dec (fun g=>Ret_some ?_) fun g=>?_
 ·rw[if_pos (List.eq_nil_of_length_eq_zero (by omega))]
 ·refine Ret_chk (inb_t (by omega) (by omega)) (Ret_some ?_)
  rw[if_neg fun e=>g (by rw[e];rfl)]
theorem ways_ex {s:List Int×List Int} (h:RValid s) (h8:s.1.length≤8):∃L,WaysL s L:=by
 obtain⟨L,_,a,b⟩:=rings_ways_ok h h8
 exact⟨L,a,b⟩
end X
end Go.Vm
