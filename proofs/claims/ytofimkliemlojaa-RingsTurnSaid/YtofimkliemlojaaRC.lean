/-
  Rings: plain laws: ranks, between, crosses, kind, wrong, listed, Valid.
  Rings: the law RingsValid.
  Rings: the law RingsValid.
-/
import Derived.Test.YtofimkliemlojaaRB
set_option linter.unusedSimpArgs false
set_option linter.unusedVariables false
set_option linter.unusedSectionVars false
set_option linter.unnecessarySimpa false
namespace Go.Vm
namespace X
open W Go.Proofs.St
structure RkR (p r:List Int):Prop where
 len:r.length=32
 rk:Rk p r
 no:∀k:Nat,k<32→(k:Int)∉p→r.getD k 0= -1
theorem rings_rank_ok {p:List Int} {n:Nat} (hp:In n p) (hd:p.Nodup) (hn:n≤32) (hl:p.length≤10000):Ret (rings_rank fuel p) (RkR p):=by
 unfold rings_rank
 refine Ret_loop (Inv:=fun x:Int×List Int=>0≤x.1∧x.1≤32∧x.2.length=32∧∀k:Nat,k<x.1.toNat→x.2.getD k 0= -1) (m:=fun x=>(32-x.1).toNat) ?_ _ _ ⟨by simp,by simp,rfl,by simp⟩ (by simp only[fuel];omega)
 rintro ⟨i,r⟩ rec ⟨i1,i2,i3,i4⟩ ih
 simp only at i1 i2 i3 i4 ⊢
 refine Ret_dec (fun hlt=>?_) fun hge=>?_
 ·refine Ret_chk (inb_t (by omega) (by omega)) (Ret_chk (i64b_t (by omega) (by omega)) (ih _ ⟨by simp only;omega,by simp only;omega,by simp only[List.length_set];exact i3,fun k hk=>?_⟩ (by simp only;omega)))
  simp only at hk ⊢
  rw[getD_set (by omega)]
  split
  ·rfl
  ·exact i4 k (by omega)
 ·refine Ret_loop (Inv:=fun x:Int×List Int=>0≤x.1∧x.1≤p.length∧x.2.length=32∧(∀k:Nat,k<x.1.toNat→x.2.getD (p.getD k 0).toNat 0=k)∧∀k:Nat,k<32→(k:Int)∉p→x.2.getD k 0= -1) (m:=fun x=>((p.length:Int)-x.1).toNat) ?_ _ _ ⟨by simp,by simp,i3,by simp,fun k hk _=>i4 k (by omega)⟩ (by simp only[fuel];omega)
  rintro ⟨i,r⟩ rec ⟨i1,i2,i3,i4,i5⟩ ih
  simp only at i1 i2 i3 i4 i5 ⊢
  refine Ret_dec (fun hlt=>?_) fun hge=>?_
  ·have hm:=getD_mem (L:=p) (i:=i.toNat) (by omega)
   have hx:=hp _ hm
   have:=set_rk hd hp (by omega) (by omega) i4
   rw[show((i.toNat:Nat):Int)=i by omega,show i.toNat+1=(i+1).toNat by omega] at this
   refine Ret_chk (inb_t (by omega) (by omega)) (Ret_chk (inb_t (by omega) (by omega)) (Ret_chk (i64b_t (by omega) (by omega)) (ih _ ⟨by simp only;omega,by simp only;omega,by simp only[List.length_set];exact i3,this,fun k hk hkp=>?_⟩ (by simp only;omega))))
   simp only
   rw[getD_set (by omega),if_neg (fun e=>hkp (by rw[e,show(((p.getD i.toNat 0).toNat:Nat):Int)=p.getD i.toNat 0 by omega];exact hm))]
   exact i5 k hk hkp
  ·exact Ret_some ⟨i3,fun k hk=>i4 k (by omega),i5⟩
section
variable {L K E:List Int} (hL:L.length≤32)
include hL
theorem rings_from_ok (hE:E.length=L.length+1) {i:Int} (h0:0≤i) (h1:i<L.length):rings_folded_from fuel (((L,K),E),i)=some (frm E i.toNat):=by
 unfold rings_folded_from
 rw[chk_t (inb_t h0 (by simp only;omega)),chk_t (i64b_t (by simp only;omega) (by simp only;omega)),chk_t (inb_t (by simp only;omega) (by simp only;omega))]
 simp only[frm,show(i+1).toNat=i.toNat+1 by omega]
theorem rings_to_ok (hE:E.length=L.length+1) {i:Int} (h0:0≤i) (h1:i<L.length):rings_folded_to fuel (((L,K),E),i)=some (too E i.toNat):=by
 unfold rings_folded_to
 rw[chk_t (inb_t h0 (by simp only;omega)),chk_t (i64b_t (by simp only;omega) (by simp only;omega)),chk_t (inb_t (by simp only;omega) (by simp only;omega))]
 simp only[too,show(i+1).toNat=i.toNat+1 by omega]
theorem rings_behind_ok {i:Int} (h0:0≤i) (h1:i<L.length):rings_folded_behind fuel (((L,K),E),i)=some (sc L.length i):=by
 unfold rings_folded_behind
 rw[chk_t (i64b_t (by simp only;omega) (by simp only;omega)),chk_t (by simp only[Bool.and_eq_true,decide_eq_true_eq];omega)]
 simp only
 congr 1
 unfold sc
 split
 ·exact Int.emod_eq_of_lt (by omega) (by omega)
 ·rw[show i+1=(L.length:Int) by omega,Int.emod_self]
end
def BetP (n:Nat) (f:Int→Int) (i x:Int):Prop:=0≤min (f i) (f (sc n i))∧BetR n f i x
instance (n:Nat) (f:Int→Int) (i x:Int):Decidable (BetR n f i x):=by unfold BetR;infer_instance
instance (n:Nat) (f:Int→Int) (i x:Int):Decidable (BetP n f i x):=by unfold BetP;infer_instance
theorem rings_between_ok {L K E r:List Int} (hL:L.length≤32) {i v:Int} (h0:0≤i) (h1:i<L.length) (v0:0≤v) (v1:v<L.length):rings_folded_between fuel (((L,K),E),(r,(i,v)))=some (decide (BetP L.length (fun x=>r.getD x.toNat 0) i v)):=by
 have hs:0≤sc L.length i∧sc L.length i<L.length:=by unfold sc;split<;>omega
 unfold rings_folded_between
 simp only
 rw[chk_t (inb_t h0 (by omega)),rings_behind_ok hL h0 h1,Option.bind_some,chk_t (inb_t hs.1 (by omega)),chk_t (inb_t v0 (by omega)),chk_t (inb_t v0 (by omega))]
 have e:∀b:Bool,(b=true↔BetP L.length (fun x=>r.getD x.toNat 0) i v)→some b=some (decide (BetP L.length (fun x=>r.getD x.toNat 0) i v)):=fun b hb=>by
  congr 1
  rw[Bool.eq_iff_iff,decide_eq_true_eq]
  exact hb
 by_cases g0:(0:Int)≤min (r.getD i.toNat 0) (r.getD (sc L.length i).toNat 0)
 ·rw[decide_eq_true g0,cond_true]
  by_cases g:min (r.getD i.toNat 0) (r.getD (sc L.length i).toNat 0)<r.getD v.toNat 0
  ·rw[decide_eq_true g,cond_true]
   refine e _ ?_
   rw[decide_eq_true_eq]
   exact⟨fun h=>⟨g0,g,h⟩,fun h=>h.2.2⟩
  ·rw[decide_eq_false g,cond_false]
   exact e _ ⟨fun h=>(by cases h),fun h=>absurd h.2.1 g⟩
 ·rw[decide_eq_false g0,cond_false]
  exact e _ ⟨fun h=>(by cases h),fun h=>absurd h.1 g0⟩
def CrossPA (E:List Int) (n:Nat) (f:Int→Int) (i:Int):Prop:=(∃j:Int,0≤j∧j<n∧frm E j.toNat<E.getD (i.toNat+1) 0∧E.getD (i.toNat+1) 0<too E j.toNat∧BetP n f i j)∨
 ∃j:Int,0≤j∧j<n∧j≠i∧E.getD (j.toNat+1) 0=E.getD (i.toNat+1) 0∧(E.getD (i.toNat+1) 0<E.getD j.toNat 0↔E.getD (i.toNat+1) 0<E.getD i.toNat 0)∧0≤min (f j) (f (sc n j))∧¬(BetP n f i j↔BetP n f i (sc n j))
def CrossP (E:List Int) (n:Nat) (f:Int→Int):Prop:=∃i:Int,0≤i∧i<n∧CrossPA E n f i
theorem mem_bes {k:Nat} {E:List Int} {cr:Nat} {x:Int}:x∈(besL k E cr).map (fun(i:Nat)=>(i:Int))↔0≤x∧x<k∧x≠cr∧E.getD (x.toNat+1) 0=E.getD (cr+1) 0∧(E.getD (cr+1) 0<E.getD x.toNat 0↔E.getD (cr+1) 0<E.getD cr 0):=by
 simp only[besL,List.mem_map,List.mem_filter,List.mem_range,besP,Bool.and_eq_true,Bool.not_eq_true',decide_eq_true_eq,decide_eq_false_iff_not,beq_iff_eq,decide_eq_decide]
 constructor
 ·rintro ⟨a,⟨h1,h0,h2,h3⟩,rfl⟩
  rw[Int.toNat_natCast]
  exact⟨by omega,by omega,by omega,h2,h3⟩
 ·rintro ⟨h1,h2,h0,h3,h4⟩
  exact⟨x.toNat,⟨by omega,by omega,h3,h4⟩,by omega⟩
theorem rings_crosses_ok {s:List Int×List Int} (h:RValid s) {r:List Int} (hr:r.length=32):Ret (rings_folded_crosses fuel ((s,endR s.1),r)) fun b=>(b=true↔CrossP (endR s.1) s.1.length fun x=>r.getD x.toNat 0):=by
 have hel:=endR_len s.1
 have hn:=h.le
 generalize hf:(fun x:Int=>r.getD x.toNat 0)=f
 have hfx:∀x:Int,r.getD x.toNat 0=f x:=fun x=>by rw[←hf]
 have bt:∀i x:Int,0≤i→i<s.1.length→0≤x→x<s.1.length→rings_folded_between fuel (((s.1,s.2),endR s.1),(r,(i,x)))=some (decide (BetP s.1.length f i x)):=fun i x a b c d=>by
  rw[rings_between_ok hn a b c d]
  simp only[hf]
 unfold rings_folded_crosses
 refine Ret_loop (Inv:=fun x:Int×(Bool×Unit)=>0≤x.1∧x.1≤s.1.length∧x.2.1=false∧∀i:Int,0≤i→i<x.1→¬CrossPA (endR s.1) s.1.length f i) (m:=fun x=>((s.1.length:Int)-x.1).toNat) ?_ _ _ ⟨by simp,by simp,rfl,fun i a b=>by simp at b;omega⟩ (by simp only[fuel];omega)
 rintro ⟨i,bad,_⟩ rec ⟨i1,i2,i3,i4⟩ ih
 simp only at i1 i2 i3 i4 ⊢
 subst i3
 refine Ret_dec (fun hlt=>?_) fun hge=>?_
 ·have ei:(i+1).toNat=i.toNat+1:=by omega
  have found:CrossPA (endR s.1) s.1.length f i→Ret (some true) fun b=>(b=true↔CrossP (endR s.1) s.1.length f):=fun hc=>Ret_some ⟨fun _=>⟨i,i1,by omega,hc⟩,fun _=>rfl⟩
  refine Ret_chk (i64b_t (by omega) (by omega)) (Ret_chk (inb_t (by omega) (by omega)) ?_)
  rw[ei]
  refine Ret_loop (Inv:=fun x:Int×(Bool×Unit)=>0≤x.1∧x.1≤s.1.length∧x.2.1=false∧∀j:Int,0≤j→j<x.1→¬(frm (endR s.1) j.toNat< (endR s.1).getD (i.toNat+1) 0∧(endR s.1).getD (i.toNat+1) 0<too (endR s.1) j.toNat∧BetP s.1.length f i j)) (m:=fun x=>((s.1.length:Int)-x.1).toNat) ?_ _ _ ⟨by simp,by simp,rfl,fun i a b=>by simp at b;omega⟩ (by simp only[fuel];omega)
  rintro ⟨j,bad,_⟩ rec2 ⟨j1,j2,j3,j4⟩ ih2
  simp only at j1 j2 j3 j4 ⊢
  subst j3
  refine Ret_dec (fun hlt2=>?_) fun hge2=>?_
  ·have nxt:¬(frm (endR s.1) j.toNat< (endR s.1).getD (i.toNat+1) 0∧(endR s.1).getD (i.toNat+1) 0<too (endR s.1) j.toNat∧BetP s.1.length f i j)→Ret (chk (i64b (j+1)) (rec2 (j+1,(false,())))) fun b=>(b=true↔CrossP (endR s.1) s.1.length f):=fun hc=>by
    refine Ret_chk (i64b_t (by omega) (by omega)) (ih2 _ ⟨by simp only;omega,by simp only;omega,rfl,fun j' a b=>?_⟩ (by simp only;omega))
    simp only at b
    by_cases e:j'=j
    ·subst e;exact hc
    ·exact j4 j' a (by omega)
   rw[rings_from_ok hn hel j1 hlt2,Option.bind_some]
   refine Ret_dec (fun g1=>?_) fun g1=>nxt fun hh=>g1 hh.1
   rw[rings_to_ok hn hel j1 hlt2,Option.bind_some]
   refine Ret_dec (fun g2=>?_) fun g2=>nxt fun hh=>g2 hh.2.1
   rw[bt i j i1 hlt j1 hlt2,Option.bind_some]
   refine Ret_dec (fun g3=>found (.inl ⟨j,j1,hlt2,g1,g2,g3⟩)) fun g3=>nxt fun hh=>g3 hh.2.2
  ·have hla:¬ ∃j:Int,0≤j∧j<s.1.length∧frm (endR s.1) j.toNat< (endR s.1).getD (i.toNat+1) 0∧(endR s.1).getD (i.toNat+1) 0<too (endR s.1) j.toNat∧BetP s.1.length f i j:=fun⟨j',a,b,c⟩=>j4 j' a (by omega) c
   have hrun:besRun (((s.1,s.2),endR s.1),(i,()))=some ((besL s.1.length (endR s.1) i.toNat).map fun(i:Nat)=>(i:Int)):=by
    unfold besRun
    simp only
    rw[show(Nat.blt (List.length (α:=Int) s.1) (List.length (α:=Int) (endR s.1))&&decide ((0:Int)≤i)&&Nat.blt (i.toNat+1) (List.length (α:=Int) (endR s.1))&&Nat.ble (List.length (α:=Int) (endR s.1)) 1000000)=true by
     simp[Nat.blt_eq]
     omega,cond_true]
   rw[hrun,Option.bind_some]
   refine Ret_list (Inv:=fun(l:List Int) (x:Bool×Unit)=>x.1=false∧(∀y∈l,0≤y∧y<s.1.length∧y≠i.toNat∧(endR s.1).getD (y.toNat+1) 0=(endR s.1).getD (i.toNat+1) 0∧((endR s.1).getD (i.toNat+1) 0< (endR s.1).getD y.toNat 0↔(endR s.1).getD (i.toNat+1) 0< (endR s.1).getD i.toNat 0))∧
    ∀j:Int,0≤j→j<s.1.length→j≠i→(endR s.1).getD (j.toNat+1) 0=(endR s.1).getD (i.toNat+1) 0→((endR s.1).getD (i.toNat+1) 0< (endR s.1).getD j.toNat 0↔(endR s.1).getD (i.toNat+1) 0< (endR s.1).getD i.toNat 0)→(0≤min (f j) (f (sc s.1.length j))→(BetP s.1.length f i j↔BetP s.1.length f i (sc s.1.length j)))∨j∈l) ?_ ?_ _ _ ⟨rfl,fun y hy=>mem_bes.1 hy,fun j a b c d e=>.inr (mem_bes.2 ⟨a,b,by omega,d,e⟩)⟩
   ·rintro ⟨bad,_⟩ ⟨k1,_,k2⟩
    simp only at k1
    subst k1
    refine Ret_chk (i64b_t (by omega) (by omega)) (ih _ ⟨by simp only;omega,by simp only;omega,rfl,fun i' a b=>?_⟩ (by simp only;omega))
    simp only at b
    by_cases e:i'=i
    ·subst e
     rintro (hh | ⟨j,a1,a2,a3,a4,a5,a6,a7⟩)
     ·exact hla hh
     ·rcases k2 j a1 a2 a3 a4 a5 with hh | hh
      ·exact a7 (hh a6)
      ·cases hh
    ·exact i4 i' a (by omega)
   ·rintro y l rec3 ⟨bad,_⟩ ⟨k1,k2,k3⟩ ih3
    simp only at k1
    subst k1
    obtain⟨y0,y1,y9,y2,y3⟩:=k2 y List.mem_cons_self
    obtain⟨s0,s1⟩:0≤sc s.1.length y∧sc s.1.length y<s.1.length:=by unfold sc;split<;>omega
    have nxt:(0≤min (f y) (f (sc s.1.length y))→(BetP s.1.length f i y↔BetP s.1.length f i (sc s.1.length y)))→Ret (rec3 (false,())) fun b=>(b=true↔CrossP (endR s.1) s.1.length f):=fun hc=>by
     refine ih3 _ ⟨rfl,fun z hz=>k2 z (List.mem_cons_of_mem _ hz),fun j a b c d e=>?_⟩
     rcases k3 j a b c d e with hh | hh
     ·exact .inl hh
     ·rcases List.mem_cons.1 hh with rfl | hh
      ·exact .inl hc
      ·exact .inr hh
    refine Ret_chk (inb_t (by omega) (by omega)) ?_
    rw[rings_behind_ok hn y0 y1,Option.bind_some]
    refine Ret_chk (inb_t (by omega) (by omega)) ?_
    rw[hfx,hfx]
    refine Ret_dec (fun g=>?_) fun g=>nxt fun hh=>absurd hh g
    rw[bt i y i1 hlt y0 y1,Option.bind_some,Option.bind_some,bt i _ i1 hlt s0 s1,Option.bind_some]
    by_cases e:BetP s.1.length f i y↔BetP s.1.length f i (sc s.1.length y)
    ·rw[show(decide (BetP s.1.length f i y)==decide (BetP s.1.length f i (sc s.1.length y)))=true by rw[beq_iff_eq,decide_eq_decide];exact e]
     exact nxt fun _=>e
    ·rw[show(decide (BetP s.1.length f i y)==decide (BetP s.1.length f i (sc s.1.length y)))=false by rw[beq_eq_false_iff_ne,ne_eq,decide_eq_decide];exact e]
     exact found (.inr ⟨y,y0,y1,by omega,y2,y3,g,e⟩)
 ·refine Ret_some ⟨fun hh=>(by cases hh),?_⟩
  rintro ⟨j,a,b,c⟩
  exact absurd c (i4 j a (by omega))
def kindR (n:Nat) (f:Int→Int) (i:Int):Int:=if i%2=0 then(if f i<f (sc n i) then 2 else 1) else(if f (sc n i)<f i then 2 else 1)
theorem rings_kind_ok {s:List Int×List Int} (h:RValid s) {r:List Int} {i:Int} (h0:0≤i) (h1:i<s.1.length):rings_folded_kind fuel ((s,endR s.1),(r,i))=some (kindR s.1.length (fun x=>r.getD x.toNat 0) i):=by
 have hn:=h.le
 obtain⟨s0,s1,s2,s3⟩:=h.ends.sc_lt h0 h1
 unfold rings_folded_kind
 simp only
 rw[rings_behind_ok hn h0 h1,Option.bind_some,chk_t (by rw[Bool.and_eq_true];exact⟨decide_eq_true s0,rfl⟩)]
 have i1:inb i 32=true:=inb_t h0 (by omega)
 have i2:inb (sc s.1.length i) 32=true:=inb_t s0 (by omega)
 simp only[i1,i2,chk_t]
 unfold kindR
 by_cases e:i%2=0
 ·rw[if_pos e,decide_eq_false (by omega),cond_false]
  by_cases g:r.getD i.toNat 0<r.getD (sc s.1.length i).toNat 0
  ·rw[decide_eq_true g,cond_true,if_pos g]
  ·rw[decide_eq_false g,cond_false,if_neg g]
 ·rw[if_neg e,decide_eq_true (by omega),cond_true]
  by_cases g:r.getD (sc s.1.length i).toNat 0<r.getD i.toNat 0
  ·rw[decide_eq_true g,cond_true,if_pos g]
  ·rw[decide_eq_false g,cond_false,if_neg g]
def WrongP (K:List Int) (n:Nat) (f:Int→Int):Prop:=∃i:Int,0≤i∧i<n∧K.getD i.toNat 0≠3∧0≤min (f i) (f (sc n i))∧K.getD i.toNat 0≠kindR n f i
theorem rings_wrong_ok {s:List Int×List Int} (h:RValid s) {r:List Int} (hr:r.length=32):Ret (rings_folded_wrong fuel ((s,endR s.1),r)) fun b=>(b=true↔WrongP s.2 s.1.length fun x=>r.getD x.toNat 0):=by
 have hn:=h.le
 have hk:=h.kl
 generalize hf:(fun x:Int=>r.getD x.toNat 0)=f
 have hfx:∀x:Int,r.getD x.toNat 0=f x:=fun x=>by rw[←hf]
 unfold rings_folded_wrong
 refine Ret_loop (Inv:=fun x:Int=>0≤x∧x≤s.2.length∧∀i:Int,0≤i→i<x→¬(s.2.getD i.toNat 0≠3∧0≤min (f i) (f (sc s.1.length i))∧s.2.getD i.toNat 0≠kindR s.1.length f i)) (m:=fun x=>((s.2.length:Int)-x).toNat) ?_ _ _ ⟨by simp,by simp,fun i a b=>by omega⟩ (by simp only[fuel];omega)
 rintro i rec ⟨i1,i2,i3⟩ ih
 simp only
 refine Ret_dec (fun hlt=>?_) fun hge=>?_
 ·have nxt:¬(s.2.getD i.toNat 0≠3∧0≤min (f i) (f (sc s.1.length i))∧s.2.getD i.toNat 0≠kindR s.1.length f i)→Ret (chk (i64b (i+1)) (rec (i+1))) fun b=>(b=true↔WrongP s.2 s.1.length f):=fun hc=>by
   refine Ret_chk (i64b_t (by omega) (by omega)) (ih _ ⟨by omega,by omega,fun j a b=>?_⟩ (by omega))
   by_cases e:j=i
   ·subst e;exact hc
   ·exact i3 j a (by omega)
  obtain⟨s0,s1⟩:0≤sc s.1.length i∧sc s.1.length i<s.1.length:=by have:=h.ends.sc_lt i1 (by omega);exact⟨this.1,this.2.1⟩
  refine Ret_chk (inb_t (by omega) (by omega)) (Ret_dec (fun g=>?_) fun g=>nxt fun hh=>g hh.1)
  refine Ret_chk (inb_t (by omega) (by omega)) ?_
  rw[rings_behind_ok hn i1 (by omega),Option.bind_some]
  refine Ret_chk (inb_t (by omega) (by omega)) ?_
  rw[hfx,hfx]
  refine Ret_dec (fun g1=>?_) fun g1=>nxt fun hh=>g1 hh.2.1
  have hkk:rings_folded_kind fuel (((s.1,s.2),endR s.1),(r,i))=some (kindR s.1.length f i):=by rw[←hf];exact rings_kind_ok h i1 (by omega)
  rw[hkk,Option.bind_some]
  refine Ret_dec (fun g2=>Ret_some ⟨fun _=>⟨i,i1,by omega,g,g1,g2⟩,fun _=>rfl⟩) fun g2=>nxt fun hh=>g2 hh.2.2
 ·refine Ret_some ⟨fun hh=>(by cases hh),?_⟩
  rintro ⟨j,a,b,c⟩
  exact absurd c (i3 j a (by omega))
end X
end Go.Vm
namespace Go.Vm
namespace X
open W Go.Proofs.St
theorem BetR_congr {n:Nat} {f g:Int→Int} (hfg:∀x:Int,0≤x→x<n→f x=g x) {i x:Int} (h0:0≤i) (h1:i<n) (x0:0≤x) (x1:x<n):BetR n f i x↔BetR n g i x:=by
 have hs:0≤sc n i∧sc n i<n:=by unfold sc;split<;>omega
 unfold BetR
 rw[hfg i h0 h1,hfg _ hs.1 hs.2,hfg x x0 x1]
theorem crossP_full {E:List Int} {n:Nat} {f g:Int→Int} (hfg:∀x:Int,0≤x→x<n→f x=g x) (hf:∀x:Int,0≤x→x<n→0≤g x):CrossP E n f↔CrossR E n g:=by
 have hs:∀i:Int,0≤i→i<n→0≤sc n i∧sc n i<n:=fun i a b=>by unfold sc;split<;>omega
 have hm:∀i:Int,0≤i→i<n→0≤min (f i) (f (sc n i)):=fun i a b=>by
  have:=hs i a b
  rw[hfg i a b,hfg _ this.1 this.2]
  have:=hf i a b
  have:=hf _ (hs i a b).1 (hs i a b).2
  omega
 have hb:∀i x:Int,0≤i→i<n→0≤x→x<n→(BetP n f i x↔BetR n g i x):=fun i x a b c d=>by
  unfold BetP
  rw[←BetR_congr hfg a b c d]
  exact⟨fun h=>h.2,fun h=>⟨hm i a b,h⟩⟩
 unfold CrossP CrossPA CrossR
 constructor
 ·rintro ⟨i,a,b,⟨j,c,d,e1,e2,e3⟩ | ⟨j,c,d,e1,e2,e3,e4,e5⟩⟩
  ·exact⟨i,a,b,.inl ⟨j,c,d,e1,e2,(hb i j a b c d).1 e3⟩⟩
  ·exact⟨i,a,b,.inr ⟨j,c,d,e1,e2,e3,by rw[←hb i j a b c d,←hb i _ a b (hs j c d).1 (hs j c d).2];exact e5⟩⟩
 ·rintro ⟨i,a,b,⟨j,c,d,e1,e2,e3⟩ | ⟨j,c,d,e1,e2,e3,e5⟩⟩
  ·exact⟨i,a,b,.inl ⟨j,c,d,e1,e2,(hb i j a b c d).2 e3⟩⟩
  ·exact⟨i,a,b,.inr ⟨j,c,d,e1,e2,e3,hm j c d,by rw[hb i j a b c d,hb i _ a b (hs j c d).1 (hs j c d).2];exact e5⟩⟩
def WrongR (K:List Int) (n:Nat) (f:Int→Int):Prop:=∃i:Int,0≤i∧i<n∧K.getD i.toNat 0≠3∧K.getD i.toNat 0≠kindR n f i
theorem kindR_congr {n:Nat} {f g:Int→Int} (hfg:∀x:Int,0≤x→x<n→f x=g x) {i:Int} (h0:0≤i) (h1:i<n):kindR n f i=kindR n g i:=by
 have hs:0≤sc n i∧sc n i<n:=by unfold sc;split<;>omega
 unfold kindR
 rw[hfg i h0 h1,hfg _ hs.1 hs.2]
theorem wrongP_full {K:List Int} {n:Nat} {f g:Int→Int} (hfg:∀x:Int,0≤x→x<n→f x=g x) (hf:∀x:Int,0≤x→x<n→0≤g x):WrongP K n f↔WrongR K n g:=by
 have hs:∀i:Int,0≤i→i<n→0≤sc n i∧sc n i<n:=fun i a b=>by unfold sc;split<;>omega
 constructor
 ·rintro ⟨i,a,b,c,_,d⟩
  exact⟨i,a,b,c,by rw[←kindR_congr hfg a b];exact d⟩
 ·rintro ⟨i,a,b,c,d⟩
  refine⟨i,a,b,c,?_,by rw[kindR_congr hfg a b];exact d⟩
  rw[hfg i a b,hfg _ (hs i a b).1 (hs i a b).2]
  have:=hf i a b
  have:=hf _ (hs i a b).1 (hs i a b).2
  omega
theorem rkF_nonneg (p:List Int) (x:Int):0≤rkF p x:=by unfold rkF;omega
end X
end Go.Vm
namespace Go.Vm
namespace X
open W Go.Proofs.St
theorem lives22:law22_lives fuel ()=some true:=by kernel_rfl
end X
end Go.Vm
